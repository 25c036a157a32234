/-
  The module turned at one place.
-/
import Derived.Test.Qxb6500273aLeaf2
namespace Go.Proofs.Qxb6500273a
open Go.RowKit

theorem ModAt.setIt {w : World} {bv : Nat} {L : Lay} {M : Md} (h : ModAt w bv L M) (hw : ModW w L M) (x : Int) :
    ModAt (w.setCell ⟨L.ib, 2, none⟩ (.int .i64 x)) bv L { M with it := x } ∧ ModW (w.setCell ⟨L.ib, 2, none⟩ (.int .i64 x)) L { M with it := x } := by
  have nz : ∀ {A : Type} {l : List A} {i : Nat}, i < l.length → l ≠ [] := fun {A l i} hi e => by rw [e] at hi; simp at hi
  have o1 := hw.o1
  have o2 := hw.o2
  have o3 := hw.o3
  have o4 := hw.o4
  have o5 := hw.o5
  have k : ∀ b o v, (b ≠ L.ib ∨ o ≠ 2) → w.cell? ⟨b, o, none⟩ = some v → (w.setCell ⟨L.ib, 2, none⟩ (.int .i64 x)).cell? ⟨b, o, none⟩ = some v := by
    intro b o v hn hv
    rw [World.cell?_setCell_other _ _ _ _ (fun e => by injection e with e1 e2; omega)]
    exact hv
  have kx : ∀ b o, (∃ v, w.cell? ⟨b, o, none⟩ = some v) → ∃ v, (w.setCell ⟨L.ib, 2, none⟩ (.int .i64 x)).cell? ⟨b, o, none⟩ = some v := by
    intro b o hv
    obtain ⟨v, hv⟩ := hv
    by_cases e : (⟨b, o, none⟩ : Addr) = ⟨L.ib, 2, none⟩
    · rw [e] at hv ⊢
      exact ⟨_, World.cell?_setCell_same _ _ _ hv⟩
    · exact ⟨v, by rw [World.cell?_setCell_other _ _ _ _ (fun e2 => e e2.symm)]; exact hv⟩
  refine ⟨⟨k _ _ _ (by omega) h.m0, k _ _ _ (by omega) h.m1, k _ _ _ (by omega) h.m2, k _ _ _ (by omega) h.m3, k _ _ _ (by omega) h.m4, k _ _ _ (by omega) h.m5, k _ _ _ (by omega) h.m6, k _ _ _ (by omega) h.m7, k _ _ _ (by omega) h.m8, k _ _ _ (by omega) h.m9, k _ _ _ (by omega) h.m10, k _ _ _ (by omega) h.m11, k _ _ _ (by omega) h.ty0, k _ _ _ (by omega) h.ty1, k _ _ _ (by omega) h.ty2, World.cell?_setCell_same _ _ _ h.im, k _ _ _ (by omega) h.f0, k _ _ _ (by omega) h.f1, k _ _ _ (by omega) h.f2, k _ _ _ (by omega) h.f3, fun i hi => k _ _ _ (by omega) (h.g0 i hi), fun i hi => k _ _ _ (by omega) (h.g1 i hi), fun i hi => k _ _ _ (by omega) (h.g2 i hi), fun i hi => k _ _ _ (by omega) (h.b0 i hi), fun i hi => k _ _ _ (by omega) (h.b1 i hi), fun i hi => k _ _ _ (by omega) (h.b2 i hi), fun i hi => ⟨(h.t0 i hi).1, k _ _ _ (by have := hw.o6 (nz hi); omega) (h.t0 i hi).2⟩, fun i hi => ⟨(h.x0 i hi).1, k _ _ _ (by have := hw.o8 (nz hi); omega) (h.x0 i hi).2⟩, fun i hi => k _ _ _ (by have := hw.o8 (nz hi); omega) (h.x1 i hi), fun i hi => k _ _ _ (by have := hw.o8 (nz hi); omega) (h.x2 i hi), fun i hi => ⟨(h.e0 i hi).1, k _ _ _ (by have := hw.o9 (nz hi); omega) (h.e0 i hi).2⟩, fun i hi => k _ _ _ (by have := hw.o9 (nz hi); omega) (h.e3 i hi), fun i hi j hj => k _ _ _ (by have := hw.o10 i hi; omega) (h.ef i hi j hj), fun i hi => ⟨(h.d0 i hi).1, k _ _ _ (by have := hw.o11 (nz hi); omega) (h.d0 i hi).2⟩, h.ne⟩, ⟨hw.o1, hw.o2, hw.o3, hw.o4, hw.o5, hw.o6, by simpa using hw.o7, fun o => by simpa using hw.fp o, fun o => by simpa using hw.ft o, fun o => by simpa using hw.fi o, fun o => by simpa using hw.ff o, fun o => by simpa using hw.fg o, hw.o8, hw.o9, hw.o10, hw.o11, fun i hi => kx _ _ (hw.gx i hi), fun i hi => kx _ _ (hw.gy i hi)⟩⟩

theorem ModAt.setFt {w : World} {bv : Nat} {L : Lay} {M : Md} (h : ModAt w bv L M) (hw : ModW w L M) (x : Int) :
    ModAt (w.setCell ⟨L.fb, 0, none⟩ (.int .i64 x)) bv L { M with ft := x } ∧ ModW (w.setCell ⟨L.fb, 0, none⟩ (.int .i64 x)) L { M with ft := x } := by
  have nz : ∀ {A : Type} {l : List A} {i : Nat}, i < l.length → l ≠ [] := fun {A l i} hi e => by rw [e] at hi; simp at hi
  have o1 := hw.o1
  have o2 := hw.o2
  have o3 := hw.o3
  have o4 := hw.o4
  have o5 := hw.o5
  have k : ∀ b o v, (b ≠ L.fb ∨ o ≠ 0) → w.cell? ⟨b, o, none⟩ = some v → (w.setCell ⟨L.fb, 0, none⟩ (.int .i64 x)).cell? ⟨b, o, none⟩ = some v := by
    intro b o v hn hv
    rw [World.cell?_setCell_other _ _ _ _ (fun e => by injection e with e1 e2; omega)]
    exact hv
  have kx : ∀ b o, (∃ v, w.cell? ⟨b, o, none⟩ = some v) → ∃ v, (w.setCell ⟨L.fb, 0, none⟩ (.int .i64 x)).cell? ⟨b, o, none⟩ = some v := by
    intro b o hv
    obtain ⟨v, hv⟩ := hv
    by_cases e : (⟨b, o, none⟩ : Addr) = ⟨L.fb, 0, none⟩
    · rw [e] at hv ⊢
      exact ⟨_, World.cell?_setCell_same _ _ _ hv⟩
    · exact ⟨v, by rw [World.cell?_setCell_other _ _ _ _ (fun e2 => e e2.symm)]; exact hv⟩
  refine ⟨⟨k _ _ _ (by omega) h.m0, k _ _ _ (by omega) h.m1, k _ _ _ (by omega) h.m2, k _ _ _ (by omega) h.m3, k _ _ _ (by omega) h.m4, k _ _ _ (by omega) h.m5, k _ _ _ (by omega) h.m6, k _ _ _ (by omega) h.m7, k _ _ _ (by omega) h.m8, k _ _ _ (by omega) h.m9, k _ _ _ (by omega) h.m10, k _ _ _ (by omega) h.m11, k _ _ _ (by omega) h.ty0, k _ _ _ (by omega) h.ty1, k _ _ _ (by omega) h.ty2, k _ _ _ (by omega) h.im, World.cell?_setCell_same _ _ _ h.f0, k _ _ _ (by omega) h.f1, k _ _ _ (by omega) h.f2, k _ _ _ (by omega) h.f3, fun i hi => k _ _ _ (by omega) (h.g0 i hi), fun i hi => k _ _ _ (by omega) (h.g1 i hi), fun i hi => k _ _ _ (by omega) (h.g2 i hi), fun i hi => k _ _ _ (by omega) (h.b0 i hi), fun i hi => k _ _ _ (by omega) (h.b1 i hi), fun i hi => k _ _ _ (by omega) (h.b2 i hi), fun i hi => ⟨(h.t0 i hi).1, k _ _ _ (by have := hw.o6 (nz hi); omega) (h.t0 i hi).2⟩, fun i hi => ⟨(h.x0 i hi).1, k _ _ _ (by have := hw.o8 (nz hi); omega) (h.x0 i hi).2⟩, fun i hi => k _ _ _ (by have := hw.o8 (nz hi); omega) (h.x1 i hi), fun i hi => k _ _ _ (by have := hw.o8 (nz hi); omega) (h.x2 i hi), fun i hi => ⟨(h.e0 i hi).1, k _ _ _ (by have := hw.o9 (nz hi); omega) (h.e0 i hi).2⟩, fun i hi => k _ _ _ (by have := hw.o9 (nz hi); omega) (h.e3 i hi), fun i hi j hj => k _ _ _ (by have := hw.o10 i hi; omega) (h.ef i hi j hj), fun i hi => ⟨(h.d0 i hi).1, k _ _ _ (by have := hw.o11 (nz hi); omega) (h.d0 i hi).2⟩, h.ne⟩, ⟨hw.o1, hw.o2, hw.o3, hw.o4, hw.o5, hw.o6, by simpa using hw.o7, fun o => by simpa using hw.fp o, fun o => by simpa using hw.ft o, fun o => by simpa using hw.fi o, fun o => by simpa using hw.ff o, fun o => by simpa using hw.fg o, hw.o8, hw.o9, hw.o10, hw.o11, fun i hi => kx _ _ (hw.gx i hi), fun i hi => kx _ _ (hw.gy i hi)⟩⟩

theorem ModAt.setTabMin {w : World} {bv : Nat} {L : Lay} {M : Md} (h : ModAt w bv L M) (hw : ModW w L M) (x : Int) :
    ModAt (w.setCell ⟨L.p, 3, none⟩ (.int .i64 x)) bv L { M with tabMin := x } ∧ ModW (w.setCell ⟨L.p, 3, none⟩ (.int .i64 x)) L { M with tabMin := x } := by
  have nz : ∀ {A : Type} {l : List A} {i : Nat}, i < l.length → l ≠ [] := fun {A l i} hi e => by rw [e] at hi; simp at hi
  have o1 := hw.o1
  have o2 := hw.o2
  have o3 := hw.o3
  have o4 := hw.o4
  have o5 := hw.o5
  have k : ∀ b o v, (b ≠ L.p ∨ o ≠ 3) → w.cell? ⟨b, o, none⟩ = some v → (w.setCell ⟨L.p, 3, none⟩ (.int .i64 x)).cell? ⟨b, o, none⟩ = some v := by
    intro b o v hn hv
    rw [World.cell?_setCell_other _ _ _ _ (fun e => by injection e with e1 e2; omega)]
    exact hv
  have kx : ∀ b o, (∃ v, w.cell? ⟨b, o, none⟩ = some v) → ∃ v, (w.setCell ⟨L.p, 3, none⟩ (.int .i64 x)).cell? ⟨b, o, none⟩ = some v := by
    intro b o hv
    obtain ⟨v, hv⟩ := hv
    by_cases e : (⟨b, o, none⟩ : Addr) = ⟨L.p, 3, none⟩
    · rw [e] at hv ⊢
      exact ⟨_, World.cell?_setCell_same _ _ _ hv⟩
    · exact ⟨v, by rw [World.cell?_setCell_other _ _ _ _ (fun e2 => e e2.symm)]; exact hv⟩
  refine ⟨⟨k _ _ _ (by omega) h.m0, k _ _ _ (by omega) h.m1, k _ _ _ (by omega) h.m2, World.cell?_setCell_same _ _ _ h.m3, k _ _ _ (by omega) h.m4, k _ _ _ (by omega) h.m5, k _ _ _ (by omega) h.m6, k _ _ _ (by omega) h.m7, k _ _ _ (by omega) h.m8, k _ _ _ (by omega) h.m9, k _ _ _ (by omega) h.m10, k _ _ _ (by omega) h.m11, k _ _ _ (by omega) h.ty0, k _ _ _ (by omega) h.ty1, k _ _ _ (by omega) h.ty2, k _ _ _ (by omega) h.im, k _ _ _ (by omega) h.f0, k _ _ _ (by omega) h.f1, k _ _ _ (by omega) h.f2, k _ _ _ (by omega) h.f3, fun i hi => k _ _ _ (by omega) (h.g0 i hi), fun i hi => k _ _ _ (by omega) (h.g1 i hi), fun i hi => k _ _ _ (by omega) (h.g2 i hi), fun i hi => k _ _ _ (by omega) (h.b0 i hi), fun i hi => k _ _ _ (by omega) (h.b1 i hi), fun i hi => k _ _ _ (by omega) (h.b2 i hi), fun i hi => ⟨(h.t0 i hi).1, k _ _ _ (by have := hw.o6 (nz hi); omega) (h.t0 i hi).2⟩, fun i hi => ⟨(h.x0 i hi).1, k _ _ _ (by have := hw.o8 (nz hi); omega) (h.x0 i hi).2⟩, fun i hi => k _ _ _ (by have := hw.o8 (nz hi); omega) (h.x1 i hi), fun i hi => k _ _ _ (by have := hw.o8 (nz hi); omega) (h.x2 i hi), fun i hi => ⟨(h.e0 i hi).1, k _ _ _ (by have := hw.o9 (nz hi); omega) (h.e0 i hi).2⟩, fun i hi => k _ _ _ (by have := hw.o9 (nz hi); omega) (h.e3 i hi), fun i hi j hj => k _ _ _ (by have := hw.o10 i hi; omega) (h.ef i hi j hj), fun i hi => ⟨(h.d0 i hi).1, k _ _ _ (by have := hw.o11 (nz hi); omega) (h.d0 i hi).2⟩, h.ne⟩, ⟨hw.o1, hw.o2, hw.o3, hw.o4, hw.o5, hw.o6, by simpa using hw.o7, fun o => by simpa using hw.fp o, fun o => by simpa using hw.ft o, fun o => by simpa using hw.fi o, fun o => by simpa using hw.ff o, fun o => by simpa using hw.fg o, hw.o8, hw.o9, hw.o10, hw.o11, fun i hi => kx _ _ (hw.gx i hi), fun i hi => kx _ _ (hw.gy i hi)⟩⟩

theorem ModAt.setTabMax {w : World} {bv : Nat} {L : Lay} {M : Md} (h : ModAt w bv L M) (hw : ModW w L M) (x : Int) :
    ModAt (w.setCell ⟨L.p, 4, none⟩ (.int .i64 x)) bv L { M with tabMax := x } ∧ ModW (w.setCell ⟨L.p, 4, none⟩ (.int .i64 x)) L { M with tabMax := x } := by
  have nz : ∀ {A : Type} {l : List A} {i : Nat}, i < l.length → l ≠ [] := fun {A l i} hi e => by rw [e] at hi; simp at hi
  have o1 := hw.o1
  have o2 := hw.o2
  have o3 := hw.o3
  have o4 := hw.o4
  have o5 := hw.o5
  have k : ∀ b o v, (b ≠ L.p ∨ o ≠ 4) → w.cell? ⟨b, o, none⟩ = some v → (w.setCell ⟨L.p, 4, none⟩ (.int .i64 x)).cell? ⟨b, o, none⟩ = some v := by
    intro b o v hn hv
    rw [World.cell?_setCell_other _ _ _ _ (fun e => by injection e with e1 e2; omega)]
    exact hv
  have kx : ∀ b o, (∃ v, w.cell? ⟨b, o, none⟩ = some v) → ∃ v, (w.setCell ⟨L.p, 4, none⟩ (.int .i64 x)).cell? ⟨b, o, none⟩ = some v := by
    intro b o hv
    obtain ⟨v, hv⟩ := hv
    by_cases e : (⟨b, o, none⟩ : Addr) = ⟨L.p, 4, none⟩
    · rw [e] at hv ⊢
      exact ⟨_, World.cell?_setCell_same _ _ _ hv⟩
    · exact ⟨v, by rw [World.cell?_setCell_other _ _ _ _ (fun e2 => e e2.symm)]; exact hv⟩
  refine ⟨⟨k _ _ _ (by omega) h.m0, k _ _ _ (by omega) h.m1, k _ _ _ (by omega) h.m2, k _ _ _ (by omega) h.m3, World.cell?_setCell_same _ _ _ h.m4, k _ _ _ (by omega) h.m5, k _ _ _ (by omega) h.m6, k _ _ _ (by omega) h.m7, k _ _ _ (by omega) h.m8, k _ _ _ (by omega) h.m9, k _ _ _ (by omega) h.m10, k _ _ _ (by omega) h.m11, k _ _ _ (by omega) h.ty0, k _ _ _ (by omega) h.ty1, k _ _ _ (by omega) h.ty2, k _ _ _ (by omega) h.im, k _ _ _ (by omega) h.f0, k _ _ _ (by omega) h.f1, k _ _ _ (by omega) h.f2, k _ _ _ (by omega) h.f3, fun i hi => k _ _ _ (by omega) (h.g0 i hi), fun i hi => k _ _ _ (by omega) (h.g1 i hi), fun i hi => k _ _ _ (by omega) (h.g2 i hi), fun i hi => k _ _ _ (by omega) (h.b0 i hi), fun i hi => k _ _ _ (by omega) (h.b1 i hi), fun i hi => k _ _ _ (by omega) (h.b2 i hi), fun i hi => ⟨(h.t0 i hi).1, k _ _ _ (by have := hw.o6 (nz hi); omega) (h.t0 i hi).2⟩, fun i hi => ⟨(h.x0 i hi).1, k _ _ _ (by have := hw.o8 (nz hi); omega) (h.x0 i hi).2⟩, fun i hi => k _ _ _ (by have := hw.o8 (nz hi); omega) (h.x1 i hi), fun i hi => k _ _ _ (by have := hw.o8 (nz hi); omega) (h.x2 i hi), fun i hi => ⟨(h.e0 i hi).1, k _ _ _ (by have := hw.o9 (nz hi); omega) (h.e0 i hi).2⟩, fun i hi => k _ _ _ (by have := hw.o9 (nz hi); omega) (h.e3 i hi), fun i hi j hj => k _ _ _ (by have := hw.o10 i hi; omega) (h.ef i hi j hj), fun i hi => ⟨(h.d0 i hi).1, k _ _ _ (by have := hw.o11 (nz hi); omega) (h.d0 i hi).2⟩, h.ne⟩, ⟨hw.o1, hw.o2, hw.o3, hw.o4, hw.o5, hw.o6, by simpa using hw.o7, fun o => by simpa using hw.fp o, fun o => by simpa using hw.ft o, fun o => by simpa using hw.fi o, fun o => by simpa using hw.ff o, fun o => by simpa using hw.fg o, hw.o8, hw.o9, hw.o10, hw.o11, fun i hi => kx _ _ (hw.gx i hi), fun i hi => kx _ _ (hw.gy i hi)⟩⟩

theorem ModAt.setMemMin {w : World} {bv : Nat} {L : Lay} {M : Md} (h : ModAt w bv L M) (hw : ModW w L M) (x : Int) :
    ModAt (w.setCell ⟨L.p, 5, none⟩ (.int .i64 x)) bv L { M with memMin := x } ∧ ModW (w.setCell ⟨L.p, 5, none⟩ (.int .i64 x)) L { M with memMin := x } := by
  have nz : ∀ {A : Type} {l : List A} {i : Nat}, i < l.length → l ≠ [] := fun {A l i} hi e => by rw [e] at hi; simp at hi
  have o1 := hw.o1
  have o2 := hw.o2
  have o3 := hw.o3
  have o4 := hw.o4
  have o5 := hw.o5
  have k : ∀ b o v, (b ≠ L.p ∨ o ≠ 5) → w.cell? ⟨b, o, none⟩ = some v → (w.setCell ⟨L.p, 5, none⟩ (.int .i64 x)).cell? ⟨b, o, none⟩ = some v := by
    intro b o v hn hv
    rw [World.cell?_setCell_other _ _ _ _ (fun e => by injection e with e1 e2; omega)]
    exact hv
  have kx : ∀ b o, (∃ v, w.cell? ⟨b, o, none⟩ = some v) → ∃ v, (w.setCell ⟨L.p, 5, none⟩ (.int .i64 x)).cell? ⟨b, o, none⟩ = some v := by
    intro b o hv
    obtain ⟨v, hv⟩ := hv
    by_cases e : (⟨b, o, none⟩ : Addr) = ⟨L.p, 5, none⟩
    · rw [e] at hv ⊢
      exact ⟨_, World.cell?_setCell_same _ _ _ hv⟩
    · exact ⟨v, by rw [World.cell?_setCell_other _ _ _ _ (fun e2 => e e2.symm)]; exact hv⟩
  refine ⟨⟨k _ _ _ (by omega) h.m0, k _ _ _ (by omega) h.m1, k _ _ _ (by omega) h.m2, k _ _ _ (by omega) h.m3, k _ _ _ (by omega) h.m4, World.cell?_setCell_same _ _ _ h.m5, k _ _ _ (by omega) h.m6, k _ _ _ (by omega) h.m7, k _ _ _ (by omega) h.m8, k _ _ _ (by omega) h.m9, k _ _ _ (by omega) h.m10, k _ _ _ (by omega) h.m11, k _ _ _ (by omega) h.ty0, k _ _ _ (by omega) h.ty1, k _ _ _ (by omega) h.ty2, k _ _ _ (by omega) h.im, k _ _ _ (by omega) h.f0, k _ _ _ (by omega) h.f1, k _ _ _ (by omega) h.f2, k _ _ _ (by omega) h.f3, fun i hi => k _ _ _ (by omega) (h.g0 i hi), fun i hi => k _ _ _ (by omega) (h.g1 i hi), fun i hi => k _ _ _ (by omega) (h.g2 i hi), fun i hi => k _ _ _ (by omega) (h.b0 i hi), fun i hi => k _ _ _ (by omega) (h.b1 i hi), fun i hi => k _ _ _ (by omega) (h.b2 i hi), fun i hi => ⟨(h.t0 i hi).1, k _ _ _ (by have := hw.o6 (nz hi); omega) (h.t0 i hi).2⟩, fun i hi => ⟨(h.x0 i hi).1, k _ _ _ (by have := hw.o8 (nz hi); omega) (h.x0 i hi).2⟩, fun i hi => k _ _ _ (by have := hw.o8 (nz hi); omega) (h.x1 i hi), fun i hi => k _ _ _ (by have := hw.o8 (nz hi); omega) (h.x2 i hi), fun i hi => ⟨(h.e0 i hi).1, k _ _ _ (by have := hw.o9 (nz hi); omega) (h.e0 i hi).2⟩, fun i hi => k _ _ _ (by have := hw.o9 (nz hi); omega) (h.e3 i hi), fun i hi j hj => k _ _ _ (by have := hw.o10 i hi; omega) (h.ef i hi j hj), fun i hi => ⟨(h.d0 i hi).1, k _ _ _ (by have := hw.o11 (nz hi); omega) (h.d0 i hi).2⟩, h.ne⟩, ⟨hw.o1, hw.o2, hw.o3, hw.o4, hw.o5, hw.o6, by simpa using hw.o7, fun o => by simpa using hw.fp o, fun o => by simpa using hw.ft o, fun o => by simpa using hw.fi o, fun o => by simpa using hw.ff o, fun o => by simpa using hw.fg o, hw.o8, hw.o9, hw.o10, hw.o11, fun i hi => kx _ _ (hw.gx i hi), fun i hi => kx _ _ (hw.gy i hi)⟩⟩

theorem ModAt.setMemMax {w : World} {bv : Nat} {L : Lay} {M : Md} (h : ModAt w bv L M) (hw : ModW w L M) (x : Int) :
    ModAt (w.setCell ⟨L.p, 6, none⟩ (.int .i64 x)) bv L { M with memMax := x } ∧ ModW (w.setCell ⟨L.p, 6, none⟩ (.int .i64 x)) L { M with memMax := x } := by
  have nz : ∀ {A : Type} {l : List A} {i : Nat}, i < l.length → l ≠ [] := fun {A l i} hi e => by rw [e] at hi; simp at hi
  have o1 := hw.o1
  have o2 := hw.o2
  have o3 := hw.o3
  have o4 := hw.o4
  have o5 := hw.o5
  have k : ∀ b o v, (b ≠ L.p ∨ o ≠ 6) → w.cell? ⟨b, o, none⟩ = some v → (w.setCell ⟨L.p, 6, none⟩ (.int .i64 x)).cell? ⟨b, o, none⟩ = some v := by
    intro b o v hn hv
    rw [World.cell?_setCell_other _ _ _ _ (fun e => by injection e with e1 e2; omega)]
    exact hv
  have kx : ∀ b o, (∃ v, w.cell? ⟨b, o, none⟩ = some v) → ∃ v, (w.setCell ⟨L.p, 6, none⟩ (.int .i64 x)).cell? ⟨b, o, none⟩ = some v := by
    intro b o hv
    obtain ⟨v, hv⟩ := hv
    by_cases e : (⟨b, o, none⟩ : Addr) = ⟨L.p, 6, none⟩
    · rw [e] at hv ⊢
      exact ⟨_, World.cell?_setCell_same _ _ _ hv⟩
    · exact ⟨v, by rw [World.cell?_setCell_other _ _ _ _ (fun e2 => e e2.symm)]; exact hv⟩
  refine ⟨⟨k _ _ _ (by omega) h.m0, k _ _ _ (by omega) h.m1, k _ _ _ (by omega) h.m2, k _ _ _ (by omega) h.m3, k _ _ _ (by omega) h.m4, k _ _ _ (by omega) h.m5, World.cell?_setCell_same _ _ _ h.m6, k _ _ _ (by omega) h.m7, k _ _ _ (by omega) h.m8, k _ _ _ (by omega) h.m9, k _ _ _ (by omega) h.m10, k _ _ _ (by omega) h.m11, k _ _ _ (by omega) h.ty0, k _ _ _ (by omega) h.ty1, k _ _ _ (by omega) h.ty2, k _ _ _ (by omega) h.im, k _ _ _ (by omega) h.f0, k _ _ _ (by omega) h.f1, k _ _ _ (by omega) h.f2, k _ _ _ (by omega) h.f3, fun i hi => k _ _ _ (by omega) (h.g0 i hi), fun i hi => k _ _ _ (by omega) (h.g1 i hi), fun i hi => k _ _ _ (by omega) (h.g2 i hi), fun i hi => k _ _ _ (by omega) (h.b0 i hi), fun i hi => k _ _ _ (by omega) (h.b1 i hi), fun i hi => k _ _ _ (by omega) (h.b2 i hi), fun i hi => ⟨(h.t0 i hi).1, k _ _ _ (by have := hw.o6 (nz hi); omega) (h.t0 i hi).2⟩, fun i hi => ⟨(h.x0 i hi).1, k _ _ _ (by have := hw.o8 (nz hi); omega) (h.x0 i hi).2⟩, fun i hi => k _ _ _ (by have := hw.o8 (nz hi); omega) (h.x1 i hi), fun i hi => k _ _ _ (by have := hw.o8 (nz hi); omega) (h.x2 i hi), fun i hi => ⟨(h.e0 i hi).1, k _ _ _ (by have := hw.o9 (nz hi); omega) (h.e0 i hi).2⟩, fun i hi => k _ _ _ (by have := hw.o9 (nz hi); omega) (h.e3 i hi), fun i hi j hj => k _ _ _ (by have := hw.o10 i hi; omega) (h.ef i hi j hj), fun i hi => ⟨(h.d0 i hi).1, k _ _ _ (by have := hw.o11 (nz hi); omega) (h.d0 i hi).2⟩, h.ne⟩, ⟨hw.o1, hw.o2, hw.o3, hw.o4, hw.o5, hw.o6, by simpa using hw.o7, fun o => by simpa using hw.fp o, fun o => by simpa using hw.ft o, fun o => by simpa using hw.fi o, fun o => by simpa using hw.ff o, fun o => by simpa using hw.fg o, hw.o8, hw.o9, hw.o10, hw.o11, fun i hi => kx _ _ (hw.gx i hi), fun i hi => kx _ _ (hw.gy i hi)⟩⟩

theorem ModAt.setStart {w : World} {bv : Nat} {L : Lay} {M : Md} (h : ModAt w bv L M) (hw : ModW w L M) (x : Int) :
    ModAt (w.setCell ⟨L.p, 9, none⟩ (.int .i64 x)) bv L { M with start := x } ∧ ModW (w.setCell ⟨L.p, 9, none⟩ (.int .i64 x)) L { M with start := x } := by
  have nz : ∀ {A : Type} {l : List A} {i : Nat}, i < l.length → l ≠ [] := fun {A l i} hi e => by rw [e] at hi; simp at hi
  have o1 := hw.o1
  have o2 := hw.o2
  have o3 := hw.o3
  have o4 := hw.o4
  have o5 := hw.o5
  have k : ∀ b o v, (b ≠ L.p ∨ o ≠ 9) → w.cell? ⟨b, o, none⟩ = some v → (w.setCell ⟨L.p, 9, none⟩ (.int .i64 x)).cell? ⟨b, o, none⟩ = some v := by
    intro b o v hn hv
    rw [World.cell?_setCell_other _ _ _ _ (fun e => by injection e with e1 e2; omega)]
    exact hv
  have kx : ∀ b o, (∃ v, w.cell? ⟨b, o, none⟩ = some v) → ∃ v, (w.setCell ⟨L.p, 9, none⟩ (.int .i64 x)).cell? ⟨b, o, none⟩ = some v := by
    intro b o hv
    obtain ⟨v, hv⟩ := hv
    by_cases e : (⟨b, o, none⟩ : Addr) = ⟨L.p, 9, none⟩
    · rw [e] at hv ⊢
      exact ⟨_, World.cell?_setCell_same _ _ _ hv⟩
    · exact ⟨v, by rw [World.cell?_setCell_other _ _ _ _ (fun e2 => e e2.symm)]; exact hv⟩
  refine ⟨⟨k _ _ _ (by omega) h.m0, k _ _ _ (by omega) h.m1, k _ _ _ (by omega) h.m2, k _ _ _ (by omega) h.m3, k _ _ _ (by omega) h.m4, k _ _ _ (by omega) h.m5, k _ _ _ (by omega) h.m6, k _ _ _ (by omega) h.m7, k _ _ _ (by omega) h.m8, World.cell?_setCell_same _ _ _ h.m9, k _ _ _ (by omega) h.m10, k _ _ _ (by omega) h.m11, k _ _ _ (by omega) h.ty0, k _ _ _ (by omega) h.ty1, k _ _ _ (by omega) h.ty2, k _ _ _ (by omega) h.im, k _ _ _ (by omega) h.f0, k _ _ _ (by omega) h.f1, k _ _ _ (by omega) h.f2, k _ _ _ (by omega) h.f3, fun i hi => k _ _ _ (by omega) (h.g0 i hi), fun i hi => k _ _ _ (by omega) (h.g1 i hi), fun i hi => k _ _ _ (by omega) (h.g2 i hi), fun i hi => k _ _ _ (by omega) (h.b0 i hi), fun i hi => k _ _ _ (by omega) (h.b1 i hi), fun i hi => k _ _ _ (by omega) (h.b2 i hi), fun i hi => ⟨(h.t0 i hi).1, k _ _ _ (by have := hw.o6 (nz hi); omega) (h.t0 i hi).2⟩, fun i hi => ⟨(h.x0 i hi).1, k _ _ _ (by have := hw.o8 (nz hi); omega) (h.x0 i hi).2⟩, fun i hi => k _ _ _ (by have := hw.o8 (nz hi); omega) (h.x1 i hi), fun i hi => k _ _ _ (by have := hw.o8 (nz hi); omega) (h.x2 i hi), fun i hi => ⟨(h.e0 i hi).1, k _ _ _ (by have := hw.o9 (nz hi); omega) (h.e0 i hi).2⟩, fun i hi => k _ _ _ (by have := hw.o9 (nz hi); omega) (h.e3 i hi), fun i hi j hj => k _ _ _ (by have := hw.o10 i hi; omega) (h.ef i hi j hj), fun i hi => ⟨(h.d0 i hi).1, k _ _ _ (by have := hw.o11 (nz hi); omega) (h.d0 i hi).2⟩, h.ne⟩, ⟨hw.o1, hw.o2, hw.o3, hw.o4, hw.o5, hw.o6, by simpa using hw.o7, fun o => by simpa using hw.fp o, fun o => by simpa using hw.ft o, fun o => by simpa using hw.fi o, fun o => by simpa using hw.ff o, fun o => by simpa using hw.fg o, hw.o8, hw.o9, hw.o10, hw.o11, fun i hi => kx _ _ (hw.gx i hi), fun i hi => kx _ _ (hw.gy i hi)⟩⟩

theorem ModAt.setT1 {w : World} {bv : Nat} {L : Lay} {M : Md} (h : ModAt w bv L M) (hw : ModW w L M) (x : List UInt8) :
    ModAt (w.setCell ⟨L.tb, 1, none⟩ (.string ⟨x.toArray⟩)) bv L { M with t1 := x } ∧ ModW (w.setCell ⟨L.tb, 1, none⟩ (.string ⟨x.toArray⟩)) L { M with t1 := x } := by
  have nz : ∀ {A : Type} {l : List A} {i : Nat}, i < l.length → l ≠ [] := fun {A l i} hi e => by rw [e] at hi; simp at hi
  have o1 := hw.o1
  have o2 := hw.o2
  have o3 := hw.o3
  have o4 := hw.o4
  have o5 := hw.o5
  have k : ∀ b o v, (b ≠ L.tb ∨ o ≠ 1) → w.cell? ⟨b, o, none⟩ = some v → (w.setCell ⟨L.tb, 1, none⟩ (.string ⟨x.toArray⟩)).cell? ⟨b, o, none⟩ = some v := by
    intro b o v hn hv
    rw [World.cell?_setCell_other _ _ _ _ (fun e => by injection e with e1 e2; omega)]
    exact hv
  have kx : ∀ b o, (∃ v, w.cell? ⟨b, o, none⟩ = some v) → ∃ v, (w.setCell ⟨L.tb, 1, none⟩ (.string ⟨x.toArray⟩)).cell? ⟨b, o, none⟩ = some v := by
    intro b o hv
    obtain ⟨v, hv⟩ := hv
    by_cases e : (⟨b, o, none⟩ : Addr) = ⟨L.tb, 1, none⟩
    · rw [e] at hv ⊢
      exact ⟨_, World.cell?_setCell_same _ _ _ hv⟩
    · exact ⟨v, by rw [World.cell?_setCell_other _ _ _ _ (fun e2 => e e2.symm)]; exact hv⟩
  refine ⟨⟨k _ _ _ (by omega) h.m0, k _ _ _ (by omega) h.m1, k _ _ _ (by omega) h.m2, k _ _ _ (by omega) h.m3, k _ _ _ (by omega) h.m4, k _ _ _ (by omega) h.m5, k _ _ _ (by omega) h.m6, k _ _ _ (by omega) h.m7, k _ _ _ (by omega) h.m8, k _ _ _ (by omega) h.m9, k _ _ _ (by omega) h.m10, k _ _ _ (by omega) h.m11, k _ _ _ (by omega) h.ty0, World.cell?_setCell_same _ _ _ h.ty1, k _ _ _ (by omega) h.ty2, k _ _ _ (by omega) h.im, k _ _ _ (by omega) h.f0, k _ _ _ (by omega) h.f1, k _ _ _ (by omega) h.f2, k _ _ _ (by omega) h.f3, fun i hi => k _ _ _ (by omega) (h.g0 i hi), fun i hi => k _ _ _ (by omega) (h.g1 i hi), fun i hi => k _ _ _ (by omega) (h.g2 i hi), fun i hi => k _ _ _ (by omega) (h.b0 i hi), fun i hi => k _ _ _ (by omega) (h.b1 i hi), fun i hi => k _ _ _ (by omega) (h.b2 i hi), fun i hi => ⟨(h.t0 i hi).1, k _ _ _ (by have := hw.o6 (nz hi); omega) (h.t0 i hi).2⟩, fun i hi => ⟨(h.x0 i hi).1, k _ _ _ (by have := hw.o8 (nz hi); omega) (h.x0 i hi).2⟩, fun i hi => k _ _ _ (by have := hw.o8 (nz hi); omega) (h.x1 i hi), fun i hi => k _ _ _ (by have := hw.o8 (nz hi); omega) (h.x2 i hi), fun i hi => ⟨(h.e0 i hi).1, k _ _ _ (by have := hw.o9 (nz hi); omega) (h.e0 i hi).2⟩, fun i hi => k _ _ _ (by have := hw.o9 (nz hi); omega) (h.e3 i hi), fun i hi j hj => k _ _ _ (by have := hw.o10 i hi; omega) (h.ef i hi j hj), fun i hi => ⟨(h.d0 i hi).1, k _ _ _ (by have := hw.o11 (nz hi); omega) (h.d0 i hi).2⟩, h.ne⟩, ⟨hw.o1, hw.o2, hw.o3, hw.o4, hw.o5, hw.o6, by simpa using hw.o7, fun o => by simpa using hw.fp o, fun o => by simpa using hw.ft o, fun o => by simpa using hw.fi o, fun o => by simpa using hw.ff o, fun o => by simpa using hw.fg o, hw.o8, hw.o9, hw.o10, hw.o11, fun i hi => kx _ _ (hw.gx i hi), fun i hi => kx _ _ (hw.gy i hi)⟩⟩

theorem ModAt.setMut3 {w : World} {bv : Nat} {L : Lay} {M : Md} (h : ModAt w bv L M) (hw : ModW w L M) (x : Bool) :
    ModAt (w.setCell ⟨L.gb, 16, none⟩ (.bool x)) bv L { M with mut3 := x } ∧ ModW (w.setCell ⟨L.gb, 16, none⟩ (.bool x)) L { M with mut3 := x } := by
  have nz : ∀ {A : Type} {l : List A} {i : Nat}, i < l.length → l ≠ [] := fun {A l i} hi e => by rw [e] at hi; simp at hi
  have o1 := hw.o1
  have o2 := hw.o2
  have o3 := hw.o3
  have o4 := hw.o4
  have o5 := hw.o5
  have k : ∀ b o v, (b ≠ L.gb ∨ o ≠ 16) → w.cell? ⟨b, o, none⟩ = some v → (w.setCell ⟨L.gb, 16, none⟩ (.bool x)).cell? ⟨b, o, none⟩ = some v := by
    intro b o v hn hv
    rw [World.cell?_setCell_other _ _ _ _ (fun e => by injection e with e1 e2; omega)]
    exact hv
  have kx : ∀ b o, (∃ v, w.cell? ⟨b, o, none⟩ = some v) → ∃ v, (w.setCell ⟨L.gb, 16, none⟩ (.bool x)).cell? ⟨b, o, none⟩ = some v := by
    intro b o hv
    obtain ⟨v, hv⟩ := hv
    by_cases e : (⟨b, o, none⟩ : Addr) = ⟨L.gb, 16, none⟩
    · rw [e] at hv ⊢
      exact ⟨_, World.cell?_setCell_same _ _ _ hv⟩
    · exact ⟨v, by rw [World.cell?_setCell_other _ _ _ _ (fun e2 => e e2.symm)]; exact hv⟩
  refine ⟨⟨k _ _ _ (by omega) h.m0, k _ _ _ (by omega) h.m1, k _ _ _ (by omega) h.m2, k _ _ _ (by omega) h.m3, k _ _ _ (by omega) h.m4, k _ _ _ (by omega) h.m5, k _ _ _ (by omega) h.m6, k _ _ _ (by omega) h.m7, k _ _ _ (by omega) h.m8, k _ _ _ (by omega) h.m9, k _ _ _ (by omega) h.m10, k _ _ _ (by omega) h.m11, k _ _ _ (by omega) h.ty0, k _ _ _ (by omega) h.ty1, k _ _ _ (by omega) h.ty2, k _ _ _ (by omega) h.im, k _ _ _ (by omega) h.f0, k _ _ _ (by omega) h.f1, k _ _ _ (by omega) h.f2, k _ _ _ (by omega) h.f3, fun i hi => k _ _ _ (by omega) (h.g0 i hi), fun i hi => by
      by_cases e : i = 3
      · subst e
        have := World.cell?_setCell_same (w := w) (a := ⟨L.gb, 16, none⟩) (v := .bool x) (h.g1 3 (by omega))
        exact this
      · have e2 : gMut { M with mut3 := x } i = gMut M i := by simp [gMut, e]
        rw [e2]
        exact k _ _ _ (by omega) (h.g1 i hi), fun i hi => k _ _ _ (by omega) (h.g2 i hi), fun i hi => k _ _ _ (by omega) (h.b0 i hi), fun i hi => k _ _ _ (by omega) (h.b1 i hi), fun i hi => k _ _ _ (by omega) (h.b2 i hi), fun i hi => ⟨(h.t0 i hi).1, k _ _ _ (by have := hw.o6 (nz hi); omega) (h.t0 i hi).2⟩, fun i hi => ⟨(h.x0 i hi).1, k _ _ _ (by have := hw.o8 (nz hi); omega) (h.x0 i hi).2⟩, fun i hi => k _ _ _ (by have := hw.o8 (nz hi); omega) (h.x1 i hi), fun i hi => k _ _ _ (by have := hw.o8 (nz hi); omega) (h.x2 i hi), fun i hi => ⟨(h.e0 i hi).1, k _ _ _ (by have := hw.o9 (nz hi); omega) (h.e0 i hi).2⟩, fun i hi => k _ _ _ (by have := hw.o9 (nz hi); omega) (h.e3 i hi), fun i hi j hj => k _ _ _ (by have := hw.o10 i hi; omega) (h.ef i hi j hj), fun i hi => ⟨(h.d0 i hi).1, k _ _ _ (by have := hw.o11 (nz hi); omega) (h.d0 i hi).2⟩, h.ne⟩, ⟨hw.o1, hw.o2, hw.o3, hw.o4, hw.o5, hw.o6, by simpa using hw.o7, fun o => by simpa using hw.fp o, fun o => by simpa using hw.ft o, fun o => by simpa using hw.fi o, fun o => by simpa using hw.ff o, fun o => by simpa using hw.fg o, hw.o8, hw.o9, hw.o10, hw.o11, fun i hi => kx _ _ (hw.gx i hi), fun i hi => kx _ _ (hw.gy i hi)⟩⟩

theorem ModAt.setGin {w : World} {bv : Nat} {L : Lay} {M : Md} (h : ModAt w bv L M) (hw : ModW w L M) (q : Nat) (hq : q < 4) (x : Int) :
    ModAt (w.setCell ⟨L.gb, (q * 5 + 2), none⟩ (.int .u8 x)) bv L { M with gin := upd M.gin q x } ∧ ModW (w.setCell ⟨L.gb, (q * 5 + 2), none⟩ (.int .u8 x)) L { M with gin := upd M.gin q x } := by
  have nz : ∀ {A : Type} {l : List A} {i : Nat}, i < l.length → l ≠ [] := fun {A l i} hi e => by rw [e] at hi; simp at hi
  have o1 := hw.o1
  have o2 := hw.o2
  have o3 := hw.o3
  have o4 := hw.o4
  have o5 := hw.o5
  have k : ∀ b o v, (b ≠ L.gb ∨ o ≠ (q * 5 + 2)) → w.cell? ⟨b, o, none⟩ = some v → (w.setCell ⟨L.gb, (q * 5 + 2), none⟩ (.int .u8 x)).cell? ⟨b, o, none⟩ = some v := by
    intro b o v hn hv
    rw [World.cell?_setCell_other _ _ _ _ (fun e => by injection e with e1 e2; omega)]
    exact hv
  have kx : ∀ b o, (∃ v, w.cell? ⟨b, o, none⟩ = some v) → ∃ v, (w.setCell ⟨L.gb, (q * 5 + 2), none⟩ (.int .u8 x)).cell? ⟨b, o, none⟩ = some v := by
    intro b o hv
    obtain ⟨v, hv⟩ := hv
    by_cases e : (⟨b, o, none⟩ : Addr) = ⟨L.gb, (q * 5 + 2), none⟩
    · rw [e] at hv ⊢
      exact ⟨_, World.cell?_setCell_same _ _ _ hv⟩
    · exact ⟨v, by rw [World.cell?_setCell_other _ _ _ _ (fun e2 => e e2.symm)]; exact hv⟩
  refine ⟨⟨k _ _ _ (by omega) h.m0, k _ _ _ (by omega) h.m1, k _ _ _ (by omega) h.m2, k _ _ _ (by omega) h.m3, k _ _ _ (by omega) h.m4, k _ _ _ (by omega) h.m5, k _ _ _ (by omega) h.m6, k _ _ _ (by omega) h.m7, k _ _ _ (by omega) h.m8, k _ _ _ (by omega) h.m9, k _ _ _ (by omega) h.m10, k _ _ _ (by omega) h.m11, k _ _ _ (by omega) h.ty0, k _ _ _ (by omega) h.ty1, k _ _ _ (by omega) h.ty2, k _ _ _ (by omega) h.im, k _ _ _ (by omega) h.f0, k _ _ _ (by omega) h.f1, k _ _ _ (by omega) h.f2, k _ _ _ (by omega) h.f3, fun i hi => k _ _ _ (by omega) (h.g0 i hi), fun i hi => k _ _ _ (by omega) (h.g1 i hi), fun i hi => by
      by_cases e : i = q
      · subst e
        simp only [upd, if_true]
        exact World.cell?_setCell_same _ _ _ (h.g2 i hi)
      · simp only [upd, if_neg e]
        exact k _ _ _ (by omega) (h.g2 i hi), fun i hi => k _ _ _ (by omega) (h.b0 i hi), fun i hi => k _ _ _ (by omega) (h.b1 i hi), fun i hi => k _ _ _ (by omega) (h.b2 i hi), fun i hi => ⟨(h.t0 i hi).1, k _ _ _ (by have := hw.o6 (nz hi); omega) (h.t0 i hi).2⟩, fun i hi => ⟨(h.x0 i hi).1, k _ _ _ (by have := hw.o8 (nz hi); omega) (h.x0 i hi).2⟩, fun i hi => k _ _ _ (by have := hw.o8 (nz hi); omega) (h.x1 i hi), fun i hi => k _ _ _ (by have := hw.o8 (nz hi); omega) (h.x2 i hi), fun i hi => ⟨(h.e0 i hi).1, k _ _ _ (by have := hw.o9 (nz hi); omega) (h.e0 i hi).2⟩, fun i hi => k _ _ _ (by have := hw.o9 (nz hi); omega) (h.e3 i hi), fun i hi j hj => k _ _ _ (by have := hw.o10 i hi; omega) (h.ef i hi j hj), fun i hi => ⟨(h.d0 i hi).1, k _ _ _ (by have := hw.o11 (nz hi); omega) (h.d0 i hi).2⟩, h.ne⟩, ⟨hw.o1, hw.o2, hw.o3, hw.o4, hw.o5, hw.o6, by simpa using hw.o7, fun o => by simpa using hw.fp o, fun o => by simpa using hw.ft o, fun o => by simpa using hw.fi o, fun o => by simpa using hw.ff o, fun o => by simpa using hw.fg o, hw.o8, hw.o9, hw.o10, hw.o11, fun i hi => kx _ _ (hw.gx i hi), fun i hi => kx _ _ (hw.gy i hi)⟩⟩

theorem ModAt.setGx {w : World} {bv : Nat} {L : Lay} {M : Md} (h : ModAt w bv L M) (hw : ModW w L M) (q : Nat) (v0 : Value) :
    ModAt (w.setCell ⟨L.gb, (q * 5 + 3), none⟩ v0) bv L M ∧ ModW (w.setCell ⟨L.gb, (q * 5 + 3), none⟩ v0) L M := by
  have nz : ∀ {A : Type} {l : List A} {i : Nat}, i < l.length → l ≠ [] := fun {A l i} hi e => by rw [e] at hi; simp at hi
  have o1 := hw.o1
  have o2 := hw.o2
  have o3 := hw.o3
  have o4 := hw.o4
  have o5 := hw.o5
  have k : ∀ b o v, (b ≠ L.gb ∨ o ≠ (q * 5 + 3)) → w.cell? ⟨b, o, none⟩ = some v → (w.setCell ⟨L.gb, (q * 5 + 3), none⟩ v0).cell? ⟨b, o, none⟩ = some v := by
    intro b o v hn hv
    rw [World.cell?_setCell_other _ _ _ _ (fun e => by injection e with e1 e2; omega)]
    exact hv
  have kx : ∀ b o, (∃ v, w.cell? ⟨b, o, none⟩ = some v) → ∃ v, (w.setCell ⟨L.gb, (q * 5 + 3), none⟩ v0).cell? ⟨b, o, none⟩ = some v := by
    intro b o hv
    obtain ⟨v, hv⟩ := hv
    by_cases e : (⟨b, o, none⟩ : Addr) = ⟨L.gb, (q * 5 + 3), none⟩
    · rw [e] at hv ⊢
      exact ⟨_, World.cell?_setCell_same _ _ _ hv⟩
    · exact ⟨v, by rw [World.cell?_setCell_other _ _ _ _ (fun e2 => e e2.symm)]; exact hv⟩
  refine ⟨⟨k _ _ _ (by omega) h.m0, k _ _ _ (by omega) h.m1, k _ _ _ (by omega) h.m2, k _ _ _ (by omega) h.m3, k _ _ _ (by omega) h.m4, k _ _ _ (by omega) h.m5, k _ _ _ (by omega) h.m6, k _ _ _ (by omega) h.m7, k _ _ _ (by omega) h.m8, k _ _ _ (by omega) h.m9, k _ _ _ (by omega) h.m10, k _ _ _ (by omega) h.m11, k _ _ _ (by omega) h.ty0, k _ _ _ (by omega) h.ty1, k _ _ _ (by omega) h.ty2, k _ _ _ (by omega) h.im, k _ _ _ (by omega) h.f0, k _ _ _ (by omega) h.f1, k _ _ _ (by omega) h.f2, k _ _ _ (by omega) h.f3, fun i hi => k _ _ _ (by omega) (h.g0 i hi), fun i hi => k _ _ _ (by omega) (h.g1 i hi), fun i hi => k _ _ _ (by omega) (h.g2 i hi), fun i hi => k _ _ _ (by omega) (h.b0 i hi), fun i hi => k _ _ _ (by omega) (h.b1 i hi), fun i hi => k _ _ _ (by omega) (h.b2 i hi), fun i hi => ⟨(h.t0 i hi).1, k _ _ _ (by have := hw.o6 (nz hi); omega) (h.t0 i hi).2⟩, fun i hi => ⟨(h.x0 i hi).1, k _ _ _ (by have := hw.o8 (nz hi); omega) (h.x0 i hi).2⟩, fun i hi => k _ _ _ (by have := hw.o8 (nz hi); omega) (h.x1 i hi), fun i hi => k _ _ _ (by have := hw.o8 (nz hi); omega) (h.x2 i hi), fun i hi => ⟨(h.e0 i hi).1, k _ _ _ (by have := hw.o9 (nz hi); omega) (h.e0 i hi).2⟩, fun i hi => k _ _ _ (by have := hw.o9 (nz hi); omega) (h.e3 i hi), fun i hi j hj => k _ _ _ (by have := hw.o10 i hi; omega) (h.ef i hi j hj), fun i hi => ⟨(h.d0 i hi).1, k _ _ _ (by have := hw.o11 (nz hi); omega) (h.d0 i hi).2⟩, h.ne⟩, ⟨hw.o1, hw.o2, hw.o3, hw.o4, hw.o5, hw.o6, by simpa using hw.o7, fun o => by simpa using hw.fp o, fun o => by simpa using hw.ft o, fun o => by simpa using hw.fi o, fun o => by simpa using hw.ff o, fun o => by simpa using hw.fg o, hw.o8, hw.o9, hw.o10, hw.o11, fun i hi => kx _ _ (hw.gx i hi), fun i hi => kx _ _ (hw.gy i hi)⟩⟩

theorem ModAt.setGy {w : World} {bv : Nat} {L : Lay} {M : Md} (h : ModAt w bv L M) (hw : ModW w L M) (q : Nat) (v0 : Value) :
    ModAt (w.setCell ⟨L.gb, (q * 5 + 4), none⟩ v0) bv L M ∧ ModW (w.setCell ⟨L.gb, (q * 5 + 4), none⟩ v0) L M := by
  have nz : ∀ {A : Type} {l : List A} {i : Nat}, i < l.length → l ≠ [] := fun {A l i} hi e => by rw [e] at hi; simp at hi
  have o1 := hw.o1
  have o2 := hw.o2
  have o3 := hw.o3
  have o4 := hw.o4
  have o5 := hw.o5
  have k : ∀ b o v, (b ≠ L.gb ∨ o ≠ (q * 5 + 4)) → w.cell? ⟨b, o, none⟩ = some v → (w.setCell ⟨L.gb, (q * 5 + 4), none⟩ v0).cell? ⟨b, o, none⟩ = some v := by
    intro b o v hn hv
    rw [World.cell?_setCell_other _ _ _ _ (fun e => by injection e with e1 e2; omega)]
    exact hv
  have kx : ∀ b o, (∃ v, w.cell? ⟨b, o, none⟩ = some v) → ∃ v, (w.setCell ⟨L.gb, (q * 5 + 4), none⟩ v0).cell? ⟨b, o, none⟩ = some v := by
    intro b o hv
    obtain ⟨v, hv⟩ := hv
    by_cases e : (⟨b, o, none⟩ : Addr) = ⟨L.gb, (q * 5 + 4), none⟩
    · rw [e] at hv ⊢
      exact ⟨_, World.cell?_setCell_same _ _ _ hv⟩
    · exact ⟨v, by rw [World.cell?_setCell_other _ _ _ _ (fun e2 => e e2.symm)]; exact hv⟩
  refine ⟨⟨k _ _ _ (by omega) h.m0, k _ _ _ (by omega) h.m1, k _ _ _ (by omega) h.m2, k _ _ _ (by omega) h.m3, k _ _ _ (by omega) h.m4, k _ _ _ (by omega) h.m5, k _ _ _ (by omega) h.m6, k _ _ _ (by omega) h.m7, k _ _ _ (by omega) h.m8, k _ _ _ (by omega) h.m9, k _ _ _ (by omega) h.m10, k _ _ _ (by omega) h.m11, k _ _ _ (by omega) h.ty0, k _ _ _ (by omega) h.ty1, k _ _ _ (by omega) h.ty2, k _ _ _ (by omega) h.im, k _ _ _ (by omega) h.f0, k _ _ _ (by omega) h.f1, k _ _ _ (by omega) h.f2, k _ _ _ (by omega) h.f3, fun i hi => k _ _ _ (by omega) (h.g0 i hi), fun i hi => k _ _ _ (by omega) (h.g1 i hi), fun i hi => k _ _ _ (by omega) (h.g2 i hi), fun i hi => k _ _ _ (by omega) (h.b0 i hi), fun i hi => k _ _ _ (by omega) (h.b1 i hi), fun i hi => k _ _ _ (by omega) (h.b2 i hi), fun i hi => ⟨(h.t0 i hi).1, k _ _ _ (by have := hw.o6 (nz hi); omega) (h.t0 i hi).2⟩, fun i hi => ⟨(h.x0 i hi).1, k _ _ _ (by have := hw.o8 (nz hi); omega) (h.x0 i hi).2⟩, fun i hi => k _ _ _ (by have := hw.o8 (nz hi); omega) (h.x1 i hi), fun i hi => k _ _ _ (by have := hw.o8 (nz hi); omega) (h.x2 i hi), fun i hi => ⟨(h.e0 i hi).1, k _ _ _ (by have := hw.o9 (nz hi); omega) (h.e0 i hi).2⟩, fun i hi => k _ _ _ (by have := hw.o9 (nz hi); omega) (h.e3 i hi), fun i hi j hj => k _ _ _ (by have := hw.o10 i hi; omega) (h.ef i hi j hj), fun i hi => ⟨(h.d0 i hi).1, k _ _ _ (by have := hw.o11 (nz hi); omega) (h.d0 i hi).2⟩, h.ne⟩, ⟨hw.o1, hw.o2, hw.o3, hw.o4, hw.o5, hw.o6, by simpa using hw.o7, fun o => by simpa using hw.fp o, fun o => by simpa using hw.ft o, fun o => by simpa using hw.fi o, fun o => by simpa using hw.ff o, fun o => by simpa using hw.fg o, hw.o8, hw.o9, hw.o10, hw.o11, fun i hi => kx _ _ (hw.gx i hi), fun i hi => kx _ _ (hw.gy i hi)⟩⟩

theorem ModAt.setExps {w : World} {bv : Nat} {L : Lay} {M : Md} (h : ModAt w bv L M) (hw : ModW w L M) (es : List Expo) (xb c : Nat) (hx : L.gb < xb) (c0 : ∀ i, i < es.length → w.cell? ⟨xb, i * 3, none⟩ = some (.string ⟨(es.getD i exp0).name.toArray⟩)) (c1 : ∀ i, i < es.length → w.cell? ⟨xb, i * 3 + 1, none⟩ = some (.int .u8 (es.getD i exp0).kind)) (c2 : ∀ i, i < es.length → w.cell? ⟨xb, i * 3 + 2, none⟩ = some (.int .u32 (es.getD i exp0).idx)) :
    ModAt (w.setCell ⟨L.p, 8, none⟩ (.slice (some ⟨xb, 0, none⟩) es.length c)) bv { L with xa := some ⟨xb, 0, none⟩, xc := c, xb := xb } { M with exps := es } ∧ ModW (w.setCell ⟨L.p, 8, none⟩ (.slice (some ⟨xb, 0, none⟩) es.length c)) { L with xa := some ⟨xb, 0, none⟩, xc := c, xb := xb } { M with exps := es } := by
  have nz : ∀ {A : Type} {l : List A} {i : Nat}, i < l.length → l ≠ [] := fun {A l i} hi e => by rw [e] at hi; simp at hi
  have o1 := hw.o1
  have o2 := hw.o2
  have o3 := hw.o3
  have o4 := hw.o4
  have o5 := hw.o5
  obtain ⟨n1, n2, n3, n4, n5, n6, n7, n8, n9, n10, n11⟩ := h.ne
  have k : ∀ b o v, (b ≠ L.p ∨ o ≠ 8) → w.cell? ⟨b, o, none⟩ = some v → (w.setCell ⟨L.p, 8, none⟩ (.slice (some ⟨xb, 0, none⟩) es.length c)).cell? ⟨b, o, none⟩ = some v := by
    intro b o v hn hv
    rw [World.cell?_setCell_other _ _ _ _ (fun e => by injection e with e1 e2; omega)]
    exact hv
  have kx : ∀ b o, (∃ v, w.cell? ⟨b, o, none⟩ = some v) → ∃ v, (w.setCell ⟨L.p, 8, none⟩ (.slice (some ⟨xb, 0, none⟩) es.length c)).cell? ⟨b, o, none⟩ = some v := by
    intro b o hv
    obtain ⟨v, hv⟩ := hv
    by_cases e : (⟨b, o, none⟩ : Addr) = ⟨L.p, 8, none⟩
    · rw [e] at hv ⊢
      exact ⟨_, World.cell?_setCell_same _ _ _ hv⟩
    · exact ⟨v, by rw [World.cell?_setCell_other _ _ _ _ (fun e2 => e e2.symm)]; exact hv⟩
  refine ⟨⟨k _ _ _ (by (try dsimp only); omega) h.m0, k _ _ _ (by (try dsimp only); omega) h.m1, k _ _ _ (by (try dsimp only); omega) h.m2, k _ _ _ (by (try dsimp only); omega) h.m3, k _ _ _ (by (try dsimp only); omega) h.m4, k _ _ _ (by (try dsimp only); omega) h.m5, k _ _ _ (by (try dsimp only); omega) h.m6, k _ _ _ (by (try dsimp only); omega) h.m7, World.cell?_setCell_same _ _ _ h.m8, k _ _ _ (by (try dsimp only); omega) h.m9, k _ _ _ (by (try dsimp only); omega) h.m10, k _ _ _ (by (try dsimp only); omega) h.m11, k _ _ _ (by (try dsimp only); omega) h.ty0, k _ _ _ (by (try dsimp only); omega) h.ty1, k _ _ _ (by (try dsimp only); omega) h.ty2, k _ _ _ (by (try dsimp only); omega) h.im, k _ _ _ (by (try dsimp only); omega) h.f0, k _ _ _ (by (try dsimp only); omega) h.f1, k _ _ _ (by (try dsimp only); omega) h.f2, k _ _ _ (by (try dsimp only); omega) h.f3, fun i hi => k _ _ _ (by (try dsimp only); omega) (h.g0 i hi), fun i hi => k _ _ _ (by (try dsimp only); omega) (h.g1 i hi), fun i hi => k _ _ _ (by (try dsimp only); omega) (h.g2 i hi), fun i hi => k _ _ _ (by (try dsimp only); omega) (h.b0 i hi), fun i hi => k _ _ _ (by (try dsimp only); omega) (h.b1 i hi), fun i hi => k _ _ _ (by (try dsimp only); omega) (h.b2 i hi), fun i hi => ⟨(h.t0 i hi).1, k _ _ _ (by have := hw.o6 (nz hi); (try dsimp only); omega) (h.t0 i hi).2⟩, fun i hi => ⟨rfl, k _ _ _ (by (try dsimp only); omega) (c0 i hi)⟩, fun i hi => k _ _ _ (by (try dsimp only); omega) (c1 i hi), fun i hi => k _ _ _ (by (try dsimp only); omega) (c2 i hi), fun i hi => ⟨(h.e0 i hi).1, k _ _ _ (by have := hw.o9 (nz hi); (try dsimp only); omega) (h.e0 i hi).2⟩, fun i hi => k _ _ _ (by have := hw.o9 (nz hi); (try dsimp only); omega) (h.e3 i hi), fun i hi j hj => k _ _ _ (by have := hw.o10 i hi; (try dsimp only); omega) (h.ef i hi j hj), fun i hi => ⟨(h.d0 i hi).1, k _ _ _ (by have := hw.o11 (nz hi); (try dsimp only); omega) (h.d0 i hi).2⟩, ⟨n1, n2, n3, n4, n5, n6, n7, fun _ => by simp only []; omega, n9, n10, n11⟩⟩, ⟨hw.o1, hw.o2, hw.o3, hw.o4, hw.o5, hw.o6, by simpa using hw.o7, fun o => by simpa using hw.fp o, fun o => by simpa using hw.ft o, fun o => by simpa using hw.fi o, fun o => by simpa using hw.ff o, fun o => by simpa using hw.fg o, fun _ => hx, hw.o9, hw.o10, hw.o11, fun i hi => kx _ _ (hw.gx i hi), fun i hi => kx _ _ (hw.gy i hi)⟩⟩

theorem ModAt.setElems {w : World} {bv : Nat} {L : Lay} {M : Md} (h : ModAt w bv L M) (hw : ModW w L M) (es : List Elmt) (eb c : Nat) (ef : Nat → Nat) (hx : L.gb < eb) (hf : ∀ i, i < es.length → L.gb < ef i) (c0 : ∀ i, i < es.length → w.cell? ⟨eb, i * 4, none⟩ = some (.int .u8 (es.getD i elm0).off)) (c3 : ∀ i, i < es.length → w.cell? ⟨eb, i * 4 + 3, none⟩ = some (.slice (some ⟨ef i, 0, none⟩) (es.getD i elm0).fns.length (es.getD i elm0).fns.length)) (cf : ∀ i, i < es.length → ∀ j, j < (es.getD i elm0).fns.length → w.cell? ⟨ef i, j, none⟩ = some (.int .u32 ((es.getD i elm0).fns.getD j 0))) :
    ModAt (w.setCell ⟨L.p, 10, none⟩ (.slice (some ⟨eb, 0, none⟩) es.length c)) bv { L with ea := some ⟨eb, 0, none⟩, ec := c, eb := eb, ef := ef } { M with elems := es } ∧ ModW (w.setCell ⟨L.p, 10, none⟩ (.slice (some ⟨eb, 0, none⟩) es.length c)) { L with ea := some ⟨eb, 0, none⟩, ec := c, eb := eb, ef := ef } { M with elems := es } := by
  have nz : ∀ {A : Type} {l : List A} {i : Nat}, i < l.length → l ≠ [] := fun {A l i} hi e => by rw [e] at hi; simp at hi
  have o1 := hw.o1
  have o2 := hw.o2
  have o3 := hw.o3
  have o4 := hw.o4
  have o5 := hw.o5
  obtain ⟨n1, n2, n3, n4, n5, n6, n7, n8, n9, n10, n11⟩ := h.ne
  have k : ∀ b o v, (b ≠ L.p ∨ o ≠ 10) → w.cell? ⟨b, o, none⟩ = some v → (w.setCell ⟨L.p, 10, none⟩ (.slice (some ⟨eb, 0, none⟩) es.length c)).cell? ⟨b, o, none⟩ = some v := by
    intro b o v hn hv
    rw [World.cell?_setCell_other _ _ _ _ (fun e => by injection e with e1 e2; omega)]
    exact hv
  have kx : ∀ b o, (∃ v, w.cell? ⟨b, o, none⟩ = some v) → ∃ v, (w.setCell ⟨L.p, 10, none⟩ (.slice (some ⟨eb, 0, none⟩) es.length c)).cell? ⟨b, o, none⟩ = some v := by
    intro b o hv
    obtain ⟨v, hv⟩ := hv
    by_cases e : (⟨b, o, none⟩ : Addr) = ⟨L.p, 10, none⟩
    · rw [e] at hv ⊢
      exact ⟨_, World.cell?_setCell_same _ _ _ hv⟩
    · exact ⟨v, by rw [World.cell?_setCell_other _ _ _ _ (fun e2 => e e2.symm)]; exact hv⟩
  refine ⟨⟨k _ _ _ (by (try dsimp only); omega) h.m0, k _ _ _ (by (try dsimp only); omega) h.m1, k _ _ _ (by (try dsimp only); omega) h.m2, k _ _ _ (by (try dsimp only); omega) h.m3, k _ _ _ (by (try dsimp only); omega) h.m4, k _ _ _ (by (try dsimp only); omega) h.m5, k _ _ _ (by (try dsimp only); omega) h.m6, k _ _ _ (by (try dsimp only); omega) h.m7, k _ _ _ (by (try dsimp only); omega) h.m8, k _ _ _ (by (try dsimp only); omega) h.m9, World.cell?_setCell_same _ _ _ h.m10, k _ _ _ (by (try dsimp only); omega) h.m11, k _ _ _ (by (try dsimp only); omega) h.ty0, k _ _ _ (by (try dsimp only); omega) h.ty1, k _ _ _ (by (try dsimp only); omega) h.ty2, k _ _ _ (by (try dsimp only); omega) h.im, k _ _ _ (by (try dsimp only); omega) h.f0, k _ _ _ (by (try dsimp only); omega) h.f1, k _ _ _ (by (try dsimp only); omega) h.f2, k _ _ _ (by (try dsimp only); omega) h.f3, fun i hi => k _ _ _ (by (try dsimp only); omega) (h.g0 i hi), fun i hi => k _ _ _ (by (try dsimp only); omega) (h.g1 i hi), fun i hi => k _ _ _ (by (try dsimp only); omega) (h.g2 i hi), fun i hi => k _ _ _ (by (try dsimp only); omega) (h.b0 i hi), fun i hi => k _ _ _ (by (try dsimp only); omega) (h.b1 i hi), fun i hi => k _ _ _ (by (try dsimp only); omega) (h.b2 i hi), fun i hi => ⟨(h.t0 i hi).1, k _ _ _ (by have := hw.o6 (nz hi); (try dsimp only); omega) (h.t0 i hi).2⟩, fun i hi => ⟨(h.x0 i hi).1, k _ _ _ (by have := hw.o8 (nz hi); (try dsimp only); omega) (h.x0 i hi).2⟩, fun i hi => k _ _ _ (by have := hw.o8 (nz hi); (try dsimp only); omega) (h.x1 i hi), fun i hi => k _ _ _ (by have := hw.o8 (nz hi); (try dsimp only); omega) (h.x2 i hi), fun i hi => ⟨rfl, k _ _ _ (by (try dsimp only); omega) (c0 i hi)⟩, fun i hi => k _ _ _ (by (try dsimp only); omega) (c3 i hi), fun i hi j hj => k _ _ _ (by have := hf i hi; (try dsimp only); omega) (cf i hi j hj), fun i hi => ⟨(h.d0 i hi).1, k _ _ _ (by have := hw.o11 (nz hi); (try dsimp only); omega) (h.d0 i hi).2⟩, ⟨n1, n2, n3, n4, n5, n6, n7, n8, fun _ => by simp only []; omega, fun i hi => by have := hf i hi; simp only []; omega, n11⟩⟩, ⟨hw.o1, hw.o2, hw.o3, hw.o4, hw.o5, hw.o6, by simpa using hw.o7, fun o => by simpa using hw.fp o, fun o => by simpa using hw.ft o, fun o => by simpa using hw.fi o, fun o => by simpa using hw.ff o, fun o => by simpa using hw.fg o, hw.o8, fun _ => hx, hf, hw.o11, fun i hi => kx _ _ (hw.gx i hi), fun i hi => kx _ _ (hw.gy i hi)⟩⟩

theorem ModAt.setDatas {w : World} {bv : Nat} {L : Lay} {M : Md} (h : ModAt w bv L M) (hw : ModW w L M) (es : List Int) (db c : Nat) (hx : L.gb < db) (c0 : ∀ i, i < es.length → w.cell? ⟨db, i * 4, none⟩ = some (.int .u8 (es.getD i 0))) :
    ModAt (w.setCell ⟨L.p, 11, none⟩ (.slice (some ⟨db, 0, none⟩) es.length c)) bv { L with da := some ⟨db, 0, none⟩, dc := c, db := db } { M with datas := es } ∧ ModW (w.setCell ⟨L.p, 11, none⟩ (.slice (some ⟨db, 0, none⟩) es.length c)) { L with da := some ⟨db, 0, none⟩, dc := c, db := db } { M with datas := es } := by
  have nz : ∀ {A : Type} {l : List A} {i : Nat}, i < l.length → l ≠ [] := fun {A l i} hi e => by rw [e] at hi; simp at hi
  have o1 := hw.o1
  have o2 := hw.o2
  have o3 := hw.o3
  have o4 := hw.o4
  have o5 := hw.o5
  obtain ⟨n1, n2, n3, n4, n5, n6, n7, n8, n9, n10, n11⟩ := h.ne
  have k : ∀ b o v, (b ≠ L.p ∨ o ≠ 11) → w.cell? ⟨b, o, none⟩ = some v → (w.setCell ⟨L.p, 11, none⟩ (.slice (some ⟨db, 0, none⟩) es.length c)).cell? ⟨b, o, none⟩ = some v := by
    intro b o v hn hv
    rw [World.cell?_setCell_other _ _ _ _ (fun e => by injection e with e1 e2; omega)]
    exact hv
  have kx : ∀ b o, (∃ v, w.cell? ⟨b, o, none⟩ = some v) → ∃ v, (w.setCell ⟨L.p, 11, none⟩ (.slice (some ⟨db, 0, none⟩) es.length c)).cell? ⟨b, o, none⟩ = some v := by
    intro b o hv
    obtain ⟨v, hv⟩ := hv
    by_cases e : (⟨b, o, none⟩ : Addr) = ⟨L.p, 11, none⟩
    · rw [e] at hv ⊢
      exact ⟨_, World.cell?_setCell_same _ _ _ hv⟩
    · exact ⟨v, by rw [World.cell?_setCell_other _ _ _ _ (fun e2 => e e2.symm)]; exact hv⟩
  refine ⟨⟨k _ _ _ (by (try dsimp only); omega) h.m0, k _ _ _ (by (try dsimp only); omega) h.m1, k _ _ _ (by (try dsimp only); omega) h.m2, k _ _ _ (by (try dsimp only); omega) h.m3, k _ _ _ (by (try dsimp only); omega) h.m4, k _ _ _ (by (try dsimp only); omega) h.m5, k _ _ _ (by (try dsimp only); omega) h.m6, k _ _ _ (by (try dsimp only); omega) h.m7, k _ _ _ (by (try dsimp only); omega) h.m8, k _ _ _ (by (try dsimp only); omega) h.m9, k _ _ _ (by (try dsimp only); omega) h.m10, World.cell?_setCell_same _ _ _ h.m11, k _ _ _ (by (try dsimp only); omega) h.ty0, k _ _ _ (by (try dsimp only); omega) h.ty1, k _ _ _ (by (try dsimp only); omega) h.ty2, k _ _ _ (by (try dsimp only); omega) h.im, k _ _ _ (by (try dsimp only); omega) h.f0, k _ _ _ (by (try dsimp only); omega) h.f1, k _ _ _ (by (try dsimp only); omega) h.f2, k _ _ _ (by (try dsimp only); omega) h.f3, fun i hi => k _ _ _ (by (try dsimp only); omega) (h.g0 i hi), fun i hi => k _ _ _ (by (try dsimp only); omega) (h.g1 i hi), fun i hi => k _ _ _ (by (try dsimp only); omega) (h.g2 i hi), fun i hi => k _ _ _ (by (try dsimp only); omega) (h.b0 i hi), fun i hi => k _ _ _ (by (try dsimp only); omega) (h.b1 i hi), fun i hi => k _ _ _ (by (try dsimp only); omega) (h.b2 i hi), fun i hi => ⟨(h.t0 i hi).1, k _ _ _ (by have := hw.o6 (nz hi); (try dsimp only); omega) (h.t0 i hi).2⟩, fun i hi => ⟨(h.x0 i hi).1, k _ _ _ (by have := hw.o8 (nz hi); (try dsimp only); omega) (h.x0 i hi).2⟩, fun i hi => k _ _ _ (by have := hw.o8 (nz hi); (try dsimp only); omega) (h.x1 i hi), fun i hi => k _ _ _ (by have := hw.o8 (nz hi); (try dsimp only); omega) (h.x2 i hi), fun i hi => ⟨(h.e0 i hi).1, k _ _ _ (by have := hw.o9 (nz hi); (try dsimp only); omega) (h.e0 i hi).2⟩, fun i hi => k _ _ _ (by have := hw.o9 (nz hi); (try dsimp only); omega) (h.e3 i hi), fun i hi j hj => k _ _ _ (by have := hw.o10 i hi; (try dsimp only); omega) (h.ef i hi j hj), fun i hi => ⟨rfl, k _ _ _ (by (try dsimp only); omega) (c0 i hi)⟩, ⟨n1, n2, n3, n4, n5, n6, n7, n8, n9, n10, fun _ => by simp only []; omega⟩⟩, ⟨hw.o1, hw.o2, hw.o3, hw.o4, hw.o5, hw.o6, by simpa using hw.o7, fun o => by simpa using hw.fp o, fun o => by simpa using hw.ft o, fun o => by simpa using hw.fi o, fun o => by simpa using hw.ff o, fun o => by simpa using hw.fg o, hw.o8, hw.o9, hw.o10, fun _ => hx, fun i hi => kx _ _ (hw.gx i hi), fun i hi => kx _ _ (hw.gy i hi)⟩⟩

theorem ModAt.keepW {w w' : World} {bv : Nat} {L : Lay} {M : Md} (h : ModAt w bv L M) (hw : ModW w L M) (hb : Below w.heap.size w w') : ModAt w' bv L M ∧ ModW w' L M := by
  refine ⟨h.keep fun p v _ hv => by rw [hb.cell (World.block_lt_of_cell? _ _ hv)]; exact hv, ?_⟩
  have l := hw.o7
  have z : ∀ b o, b < w.heap.size → w.frozen? ⟨b, o, none⟩ = false → w'.frozen? ⟨b, o, none⟩ = false := fun b o h1 h2 => by rw [hb.frozen (p := ⟨b, o, none⟩) h1]; exact h2
  have o1 := hw.o1
  have o2 := hw.o2
  have o3 := hw.o3
  have o4 := hw.o4
  refine ⟨hw.o1, hw.o2, hw.o3, hw.o4, hw.o5, hw.o6, Nat.lt_of_lt_of_le l hb.size, fun o => z _ _ (by omega) (hw.fp o), fun o => z _ _ (by omega) (hw.ft o), fun o => z _ _ (by omega) (hw.fi o), fun o => z _ _ (by omega) (hw.ff o), fun o => z _ _ l (hw.fg o), hw.o8, hw.o9, hw.o10, hw.o11, fun i hi => ?_, fun i hi => ?_⟩
  · obtain ⟨v, hv⟩ := hw.gx i hi
    exact ⟨v, by rw [hb.cell (World.block_lt_of_cell? _ _ hv)]; exact hv⟩
  · obtain ⟨v, hv⟩ := hw.gy i hi
    exact ⟨v, by rw [hb.cell (World.block_lt_of_cell? _ _ hv)]; exact hv⟩

theorem ModAt.allocW {w : World} {bv : Nat} {L : Lay} {M : Md} (h : ModAt w bv L M ∧ ModW w L M) (o : Obj) : ModAt (w.alloc o) bv L M ∧ ModW (w.alloc o) L M :=
  h.1.keepW h.2 ((Below.refl _ _).alloc (Nat.le_refl _) o)
theorem ModAt.drewW {w : World} {bv : Nat} {L : Lay} {M : Md} (h : ModAt w bv L M ∧ ModW w L M) : ModAt w.drew bv L M ∧ ModW w.drew L M := h.1.keepW h.2 (Below.refl _ _).drew
theorem ModAt.drewNW {w : World} {bv : Nat} {L : Lay} {M : Md} (h : ModAt w bv L M ∧ ModW w L M) (n : Nat) : ModAt (w.drewN n) bv L M ∧ ModW (w.drewN n) L M := h.1.keepW h.2 ⟨rfl, rfl, rfl, Nat.le_refl _, fun _ _ => rfl⟩

end Go.Proofs.Qxb6500273a
