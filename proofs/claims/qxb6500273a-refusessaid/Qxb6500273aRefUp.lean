/-
  WALKS: RefusesUpTo, Refuses.
-/
import Derived.Test.Qxb6500273aRf
import Derived.Test.Qxb6500273aDd
import Derived.Test.Qxb6500273aStarted
import Derived.Test.Qxb6500273aLy
import Derived.Test.Qxb6500273aSim4
import Derived.Test.Qxb6500273aSmall
import Derived.Test.Qxb6500273aOps
import Derived.Deep.Cut
set_option linter.unusedVariables false
set_option linter.unusedSimpArgs false
namespace Go.Proofs.Qxb6500273a
open Go.RowKit

theorem OpAt.hold {w w' : World} {sb so i : Nat} {K A B C : Int} {S T : List UInt8} (h : OpAt w sb so i K A B C S T) (hc : ∀ o v, w.cell? ⟨sb, o, none⟩ = some v → w'.cell? ⟨sb, o, none⟩ = some v) : OpAt w' sb so i K A B C S T :=
  ⟨hc _ _ h.c0, hc _ _ h.c1, hc _ _ h.c2, hc _ _ h.c3, hc _ _ h.c4, hc _ _ h.c5, h.wk, h.wa, h.wb, h.wc, h.s, h.t⟩

/-- a derivation that has laid nothing -/
def newD (on : Bool) (t : Int) : Dv := ⟨on, t, [], [], [], [], 0⟩

theorem newAt {w : World} {db : Nat} {on : Bool} {t : Int} (c0 : w.cell? ⟨db, 0, none⟩ = some (.bool on)) (c1 : w.cell? ⟨db, 1, none⟩ = some (.int .i64 t)) (c2 : w.cell? ⟨db, 2, none⟩ = some (.slice none 0 0)) (c3 : w.cell? ⟨db, 3, none⟩ = some (.slice none 0 0)) (c4 : w.cell? ⟨db, 4, none⟩ = some (.string ⟨#[]⟩)) (c5 : w.cell? ⟨db, 5, none⟩ = some (.slice none 0 0)) (c6 : w.cell? ⟨db, 6, none⟩ = some (.int .i64 0)) (fz : ∀ o, w.frozen? ⟨db, o, none⟩ = false) : DAt w db (newD on t) (.slice none 0 0) (.slice none 0 0) (.slice none 0 0) :=
  ⟨c0, c1, c2, c3, c4, c5, c6, fz, ⟨rfl, .inl ⟨rfl, rfl⟩⟩, ⟨rfl, .inl ⟨rfl, rfl⟩⟩, ⟨rfl, .inl ⟨rfl, rfl⟩⟩⟩

/-- what holds of the validator between two steps -/
structure VI (w : World) (bv : Nat) (wr : World) : Prop where
  be : Below w.heap.size w wr
  v : ∃ V, VAt wr bv V
  bv : w.heap.size ≤ bv

theorem VI.lt {w : World} {bv : Nat} {wr : World} (h : VI w bv wr) : bv < wr.heap.size := by
  obtain ⟨V, hV⟩ := h.v
  exact hV.lt

theorem VI.below {w : World} {bv B : Nat} {wr w2 : World} (h : VI w bv wr) (hb : Below B wr w2) (hB : bv < B) : VI w bv w2 := by
  obtain ⟨V, hV⟩ := h.v
  have h1 := h.bv
  exact ⟨h.be.trans (hb.mono (by omega)), ⟨V, vatBelow hV hb hB⟩, h1⟩

theorem VI.alloc {w : World} {bv : Nat} {wr : World} (h : VI w bv wr) (o : Obj) : VI w bv (wr.alloc o) :=
  h.below ((Below.refl wr.heap.size wr).alloc (Nat.le_refl _) o) h.lt

theorem VI.kept {w : World} {bv db : Nat} {wr w2 : World} (h : VI w bv wr) (hd : bv < db) (k : KeptD bv db wr w2) : VI w bv w2 := by
  refine ⟨?_, k.v, h.bv⟩
  have hb := h.be
  have hv := h.bv
  exact ⟨k.os.trans hb.os, k.tape.trans hb.tape, k.output.trans hb.output, Nat.le_trans hb.size k.size, fun i hi => by
    rw [k.block i (by omega) (by omega)]; exact hb.block i hi⟩

theorem VI.op {w : World} {bv : Nat} {wr : World} (h : VI w bv wr) {sb so i : Nat} {K A B C : Int} {S T : List UInt8} (o : OpAt w sb so i K A B C S T) : OpAt wr sb so i K A B C S T :=
  o.hold fun o v hv => by rw [h.be.cell (World.block_lt_of_cell? _ _ hv)]; exact hv

/-- what holds between two steps: the validator lies there, and a derivation that simulates -/
structure RI (w : World) (bv : Nat) (s4 : Value) (wr : World) : Prop where
  vi : VI w bv wr
  d : ∃ db D vb vt vc, s4 = .pointer (some ⟨db, 0, none⟩) ∧ DAt wr db D vb vt vc ∧ bv < db ∧ Der D

theorem RI.new {w : World} {bv b : Nat} {wr : World} (h : VI w bv wr) (hb : b = wr.heap.size) (on : Bool) {t : Int} (h0 : 0 ≤ t) (h2 : t ≤ 2) : RI w bv (.pointer (some ⟨b, 0, none⟩)) (wr.alloc (.cells #[.bool on, .int .i64 t, .slice none 0 0, .slice none 0 0, .string ⟨#[]⟩, .slice none 0 0, .int .i64 0] 32)) := by
  subst hb
  have a2 := World.cell?_alloc_new wr #[.bool on, .int .i64 t, .slice none 0 0, .slice none 0 0, .string ⟨#[]⟩, .slice none 0 0, .int .i64 0] 32
  have z2 := fun o => World.frozen?_alloc_at (w := wr) #[.bool on, .int .i64 t, .slice none 0 0, .slice none 0 0, .string ⟨#[]⟩, .slice none 0 0, .int .i64 0] 32 _ o rfl
  exact ⟨h.alloc _, _, newD on t, _, _, _, rfl, newAt (a2 0) (a2 1) (a2 2) (a2 3) (a2 4) (a2 5) (a2 6) z2, h.lt, Der.begin on h0 h2⟩

theorem RI.op {w : World} {bv : Nat} {s4 : Value} {wr : World} (h : RI w bv s4 wr) {sb so i : Nat} {K A B C : Int} {S T : List UInt8} (o : OpAt w sb so i K A B C S T) : OpAt wr sb so i K A B C S T := h.vi.op o

set_option maxRecDepth 100000 in
set_option maxHeartbeats 4000000 in
theorem refUpTo_any (a0 : Option Addr) (len cap : Nat) (w : World) (w0 : IsOps w a0 len cap) :
    Calls Try.prog 7 #[.slice a0 len cap] w fun e w' => e = .returned (.int .i64 (-1)) ∧ Below w.heap.size w w' := by
  have HN := new_any w
  rcases w0 with rfl | ⟨sb, so, rfl, hl, hm, hops⟩
  · go_enter Try.func7, Try.ntmps7
    go_wp2_with (go_at_call 9; refine HN.mono ?_; rintro e w1 ⟨rfl, hv1, hb1, hs1⟩)
    go_loopw [4, 5] (fun s4 i wr => i = .int .i64 0 ∧ Below w.heap.size w wr) (fun _ i _ => 0)
    case atStart => exact ⟨rfl, hb1.alloc (by omega) _⟩
    case round =>
      obtain ⟨rfl, hI⟩ := hrel
      go_wp2_with fail
      go_ret
      exact ⟨rfl, hI⟩
  · clear hl hm
    go_enter Try.func7, Try.ntmps7
    go_wp2_with (go_at_call 9; refine HN.mono ?_; rintro e w1 ⟨rfl, hv1, hb1, hs1⟩)
    go_loopw [4, 5] (fun s4 i wr => ∃ k : Nat, k ≤ len ∧ i = .int .i64 k ∧ RI w w.heap.size s4 wr) (fun _ i _ => len - (intOf i).toNat)
    case atStart =>
      exact ⟨0, by omega, rfl, RI.new ⟨hb1, ⟨_, hv1⟩, Nat.le_refl _⟩ rfl false (by omega) (by omega)⟩
    case round =>
      obtain ⟨k, hk, rfl, hI⟩ := hrel
      clear hb1 hv1 hs1 HN
      by_cases hlt : k < len
      · obtain ⟨K, A, B, C, S, T, ho⟩ := hops k hlt
        have ho1 := hI.op ho
        have c0 := ho1.c0
        have c1 := ho1.c1
        have c2 := ho1.c2
        have c3 := ho1.c3
        have c4 := ho1.c4
        have c5 := ho1.c5
        have hki : (k : Int) < len := by omega
        clear hops ho ho1
        obtain ⟨db, D, vb, vt, vc, rfl, hD, hbv, hDer⟩ := hI.d
        have hV1 := hI.vi.alloc (.cells #[.int .i64 K, .int .i64 A, .int .i64 B, .int .i64 C, .string ⟨S.toArray⟩, .string ⟨T.toArray⟩] 34)
        have hD1 := hD.alloc (.cells #[.int .i64 K, .int .i64 A, .int .i64 B, .int .i64 C, .string ⟨S.toArray⟩, .string ⟨T.toArray⟩] 34)
        obtain ⟨V, hV2⟩ := hV1.v
        have HI : Hid (RI w w.heap.size (.pointer (some ⟨db, 0, none⟩)) wr) := hI
        have HV1 : Hid (VI w w.heap.size (wr.alloc (.cells #[.int .i64 K, .int .i64 A, .int .i64 B, .int .i64 C, .string ⟨S.toArray⟩, .string ⟨T.toArray⟩] 34))) := hV1
        have HD1 : Hid (DAt (wr.alloc (.cells #[.int .i64 K, .int .i64 A, .int .i64 B, .int .i64 C, .string ⟨S.toArray⟩, .string ⟨T.toArray⟩] 34)) db D vb vt vc) := hD1
        have HB : Hid (w.heap.size < db) := hbv
        have hRI1 : Hid (RI w w.heap.size (.pointer (some ⟨db, 0, none⟩)) (wr.alloc (.cells #[.int .i64 K, .int .i64 A, .int .i64 B, .int .i64 C, .string ⟨S.toArray⟩, .string ⟨T.toArray⟩] 34))) := ⟨hV1, db, D, vb, vt, vc, rfl, hD1, hbv, hDer⟩
        have HDer : Hid (Der D) := hDer
        have HV2 : Hid (VAt (wr.alloc (.cells #[.int .i64 K, .int .i64 A, .int .i64 B, .int .i64 C, .string ⟨S.toArray⟩, .string ⟨T.toArray⟩] 34)) w.heap.size V) := hV2
        clear hI hD hbv hDer hV1 hD1 hV2
        by_cases hmx : (k : Int) < 4398046511104
        · by_cases hK7 : K = 7
          · subst hK7
            by_cases hA0 : 0 ≤ A
            · by_cases hA2 : A ≤ 2
              · go_wp2_with fail
                exact ⟨⟨k + 1, by omega, by simp, RI.new HV1.out (by simp) true hA0 hA2⟩, by simp [intOf]; omega⟩
              · go_wp2_with fail
                exact ⟨⟨k + 1, by omega, by simp, RI.new HV1.out (by simp) false (by omega) (by omega)⟩, by simp [intOf]; omega⟩
            · go_wp2_with fail
              exact ⟨⟨k + 1, by omega, by simp, RI.new HV1.out (by simp) false (by omega) (by omega)⟩, by simp [intOf]; omega⟩
          have b7 : (K == 7) = false := by rw [beq_eq_false_iff_ne]; exact hK7
          clear hK7
          by_cases hK8 : K = 8
          · subst hK8
            have HF := falls_any A (wr.alloc (.cells #[.int .i64 8, .int .i64 A, .int .i64 B, .int .i64 C, .string ⟨S.toArray⟩, .string ⟨T.toArray⟩] 34))
            cases hf : fallsF A
            · rw [hf] at HF
              go_wp2_with (go_at_call 15; refine HF.mono ?_; rintro e w2 ⟨rfl, rfl⟩)
              exact ⟨⟨k + 1, by omega, by simp, hRI1.out⟩, by simp [intOf]; omega⟩
            rw [hf] at HF
            have HL := lay_any db D vb vt vc 8 A B C S T _ HD1.out HDer.out.bnd HDer.out.below HDer.out.outer hf
            unfold opD at HL
            by_cases hA36 : A = 36
            · by_cases hB3 : B = 3
              · subst hA36 hB3
                go_wp2_with (go_at_call 15; refine HF.mono ?_; rintro e w2 ⟨rfl, rfl⟩)
                exact ⟨⟨k + 1, by omega, by simp, hRI1.out⟩, by simp [intOf]; omega⟩
              · subst hA36
                have g3 : (B != 3) = true := by rw [bne_iff_ne]; exact hB3
                go_wp2_with (first | (go_at_call 15; refine HF.mono ?_; rintro e w2 ⟨rfl, rfl⟩) | (go_at_call 10; refine HL.mono ?_; rintro e w2 ⟨rfl, ⟨z, vb2, vt2, vc2, hD2⟩, hb2⟩))
                exact ⟨⟨k + 1, by omega, by simp, HV1.out.below hb2 HB.out, db, _, vb2, vt2, vc2, rfl, hD2, HB.out, HDer.out.lay hf (fun e => hB3 e.2) z⟩, by simp [intOf]; omega⟩
            · have g3 : (A != 36) = true := by rw [bne_iff_ne]; exact hA36
              go_wp2_with (first | (go_at_call 15; refine HF.mono ?_; rintro e w2 ⟨rfl, rfl⟩) | (go_at_call 10; refine HL.mono ?_; rintro e w2 ⟨rfl, ⟨z, vb2, vt2, vc2, hD2⟩, hb2⟩))
              exact ⟨⟨k + 1, by omega, by simp, HV1.out.below hb2 HB.out, db, _, vb2, vt2, vc2, rfl, hD2, HB.out, HDer.out.lay hf (fun e => hA36 e.1) z⟩, by simp [intOf]; omega⟩
          have b8 : (K == 8) = false := by rw [beq_eq_false_iff_ne]; exact hK8
          clear hK8
          by_cases hK10 : K = 10
          · subst hK10
            have HC := refused_any w.heap.size db D vb vt vc V 10 A B C S T _ HD1.out HV2.out HB.out HDer.out
            unfold opD at HC
            go_wp2_with (go_at_call 16; refine HC.mono ?_; rintro e w2 ⟨rfl, hK2⟩)
            exact ⟨⟨k + 1, by omega, by simp, RI.new (HV1.out.kept HB.out hK2) (by simp) false (by omega) (by omega)⟩, by simp [intOf]; omega⟩
          have b10 : (K == 10) = false := by rw [beq_eq_false_iff_ne]; exact hK10
          clear hK10
          by_cases hK14 : K = 14
          · subst hK14
            have HC := deadly_any w.heap.size db D vb vt vc V 14 A B C S T _ HD1.out HV2.out HB.out HDer.out
            unfold opD at HC
            go_wp2_with (go_at_call 17; refine HC.mono ?_; rintro e w2 ⟨rfl, hK2⟩)
            exact ⟨⟨k + 1, by omega, by simp, RI.new (HV1.out.kept HB.out hK2) (by simp) false (by omega) (by omega)⟩, by simp [intOf]; omega⟩
          have b14 : (K == 14) = false := by rw [beq_eq_false_iff_ne]; exact hK14
          clear hK14
          by_cases hK11 : K = 11
          · subst hK11
            have HC := started_any w.heap.size db D vb vt vc V _ HD1.out HV2.out HB.out HDer.out
            go_wp2_with (go_at_call 18; refine HC.mono ?_; rintro e w2 ⟨rfl, hK2⟩)
            exact ⟨⟨k + 1, by omega, by simp, RI.new (HV1.out.kept HB.out hK2) (by simp) false (by omega) (by omega)⟩, by simp [intOf]; omega⟩
          have b11 : (K == 11) = false := by rw [beq_eq_false_iff_ne]; exact hK11
          clear hK11
          go_wp2_with fail
          exact ⟨⟨k + 1, by omega, by simp, hRI1.out⟩, by simp [intOf]; omega⟩
        · go_wp2_with fail
          go_ret
          exact ⟨rfl, HI.out.vi.be⟩
      · go_wp2_with fail
        go_ret
        exact ⟨rfl, hI.vi.be⟩

theorem refuses_walk (a0 : Option Addr) (len cap : Nat) (w : World) (w0 : IsOps w a0 len cap) :
    Calls Try.prog 4 #[.slice a0 len cap] w fun e w' => e = .returned (.bool true) ∧ Below w.heap.size w w' := by
  have HU := refUpTo_any a0 len cap w w0
  clear w0
  go_enter Try.func4, Try.ntmps4
  go_wp2_with (go_at_call 7; refine HU.mono ?_; rintro e w1 ⟨rfl, hb1⟩)
  go_ret
  exact ⟨rfl, hb1⟩

end Go.Proofs.Qxb6500273a
