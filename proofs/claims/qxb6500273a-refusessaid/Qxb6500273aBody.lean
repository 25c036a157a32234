/-
  WALKS: body.
-/
import Derived.Test.Qxb6500273aBodyB
import Derived.Test.Qxb6500273aBodyC
import Derived.Test.Qxb6500273aBodyD
import Derived.Test.Qxb6500273aBodyE
namespace Go.Proofs.Qxb6500273a
open Go.RowKit

/-- What the modules of the laws keep to. -/
structure MdOk (M : Md) : Prop where
  t1 : M.t1.length ≤ 1000
  len : M.body.length ≤ 1000
  op : ∀ i, i < M.body.length → 0 ≤ (M.body.getD i ins0).op ∧ (M.body.getD i ins0).op ≤ 255
  x : ∀ i, i < M.body.length → 0 ≤ (M.body.getD i ins0).x ∧ (M.body.getD i ins0).x ≤ 4294967295
  tab : ∀ i, i < M.body.length → (M.body.getD i ins0).op = 14 → ∃ X n : Nat, (M.body.getD i ins0).x = X ∧ (M.body.getD i ins0).y = (n : Int) + 1 ∧ X + n < M.tabs.length
  tabs : M.tabs.length ≤ 1000
  tv : ∀ i, 0 ≤ M.tabs.getD i 0 ∧ M.tabs.getD i 0 ≤ 4294967295

theorem round_any (bv : Nat) (L : Lay) (M : Md) (ps : List UInt8) (R : (Int × Int) × VS) (w : World) (Q : Exit → Act → World → Prop) (c : Code) (k : Nat) (U : VS) (s : Nat → Value) (w' : World)
    (hc : BodyRound c) (hQ : BQ bv M R w Q) (hM : ModAt w' bv L M) (hR : BRel bv M ps R w k U w') (hlt : k < M.body.length) (mo : MdOk M) (hps : ps.length ≤ 1000) : BGoal bv L M ps R w Q c s k w' := by
  generalize hx : M.body.getD k ins0 = x
  have ho := mo.op k hlt
  have hxx := mo.x k hlt
  have ht := mo.tab k hlt
  rw [hx] at ho hxx ht
  by_cases o0 : x.op = 0
  · exact body_unreachable bv L M ps R w Q c k U s w' x hc hQ hM hR hlt mo.len hx o0
  by_cases o1 : x.op = 1
  · exact body_nop bv L M ps R w Q c k U s w' x hc hQ hM hR hlt mo.len hx o1
  by_cases o2 : x.op = 2
  · exact body_open2 bv L M ps R w Q c k U s w' x hc hQ hM hR hlt mo.len hx o2
  by_cases o3 : x.op = 3
  · exact body_open3 bv L M ps R w Q c k U s w' x hc hQ hM hR hlt mo.len hx o3
  by_cases o4 : x.op = 4
  · exact body_if bv L M ps R w Q c k U s w' x hc hQ hM hR hlt mo.len hx o4
  by_cases o5 : x.op = 5
  · exact body_else bv L M ps R w Q c k U s w' x hc hQ hM hR hlt mo.len hx o5
  by_cases o11 : x.op = 11
  · exact body_end bv L M ps R w Q c k U s w' x hc hQ hM hR hlt mo.len hx o11
  by_cases o12 : x.op = 12
  · exact body_br bv L M ps R w Q c k U s w' x hc hQ hM hR hlt mo.len hx o12 hxx.1 hxx.2
  by_cases o13 : x.op = 13
  · exact body_brif bv L M ps R w Q c k U s w' x hc hQ hM hR hlt mo.len hx o13 hxx.1 hxx.2
  by_cases o14 : x.op = 14
  · obtain ⟨X, n, e1, e2, e3⟩ := ht o14
    exact body_brtable bv L M ps R w Q c k U s w' x hc hQ hM hR hlt mo.len hx o14 X n e1 e2 e3 mo.tabs mo.tv
  by_cases o15 : x.op = 15
  · exact body_return bv L M ps R w Q c k U s w' x hc hQ hM hR hlt mo.len hx o15
  by_cases h : x.op ≤ 10
  · exact body_dflt0 bv L M ps R w Q c k U s w' x hc hQ hM hR hlt mo.len hx hps mo.t1 (by omega) h hxx.1 hxx.2
  · exact body_dflt1 bv L M ps R w Q c k U s w' x hc hQ hM hR hlt mo.len hx hps mo.t1 (by omega) ho.2 hxx.1 hxx.2

theorem head_vat {w : World} {b : Nat} {V : VS} (hV : VAt w b V) (T : List UInt8) : VAt ((((((w.setCell ⟨b, 11, none⟩ (.int .i64 0)).setCell ⟨b, 12, none⟩ (.int .u8 2)).setCell ⟨b, 13, none⟩ (.int .u8 (firstF T))).setCell ⟨b, 14, none⟩ (.int .i64 0)).setCell ⟨b, 15, none⟩ (.bool false)).setCell ⟨b, 40, none⟩ (.int .i64 1)) b (headV V T) :=
  (((((hV.setHeight 0 0 rfl).setCop 0 (by omega) 2).setRes 0 (by omega) (firstF T)).setFlr 0 (by omega) 0 0 rfl).setDead 0 (by omega) false).setDepth 1 1 rfl

theorem head_ok (V : VS) (T : List UInt8) : (headV V T).Ok := by
  refine ⟨by simp [headV], by simp [headV], by simp [headV], by simp [headV, upd], ?_⟩
  intro i j hij hj
  have hj' : j < 1 := hj
  have : i = 0 := by omega
  have : j = 0 := by omega
  subst_vars
  exact Nat.le_refl _

set_option maxRecDepth 100000 in
set_option maxHeartbeats 1000000 in
theorem body_any (bv : Nat) (L : Lay) (M : Md) (V : VS) (w : World) (hM : ModAt w bv L M) (hV : VAt w bv V) (mo : MdOk M) (n : Nat) (hft : M.ft = n) (hn : n < 3) :
    Calls Try.prog 30 #[.pointer (some ⟨bv, 0, none⟩), .pointer (some ⟨L.p, 0, none⟩), .pointer (some ⟨L.fb, 0, none⟩)] w fun e w' => e = .returned (.tuple #[.int .i64 (bodyF M V).1.1, .int .i64 (bodyF M V).1.2]) ∧ VAt w' bv (bodyF M V).2 ∧ Ex bv w w' := by
  have c0 := hM.m0
  have f0 := hM.f0
  have hni : (n : Int) < 3 := by omega
  rw [hft] at f0
  have ct := hM.ty n hn
  have htl := typeText_len M mo.t1 n
  have hB : bodyF M V = runF M (splitF (typeText M n)).1 M.body.length 0 (headV V (splitF (typeText M n)).2) M.body := by
    unfold bodyF; rw [hft, Int.toNat_natCast]
  rw [hB]
  generalize typeText M n = T at *
  have hsl := splitF_len T
  generalize hR : runF M (splitF T).1 M.body.length 0 (headV V (splitF T).2) M.body = R
  have HR : Hid (runF M (splitF T).1 M.body.length 0 (headV V (splitF T).2) M.body = R) := hR
  clear hR hB hft
  have z11 := hV.frz 11
  have z12 := hV.frz 12
  have z13 := hV.frz 13
  have z14 := hV.frz 14
  have z15 := hV.frz 15
  have z40 := hV.frz 40
  have c11 := hV.height
  have k0 := hV.cop 0 (by omega)
  have k1 := hV.res 0 (by omega)
  have k2 := hV.flr 0 (by omega)
  have k3 := hV.dead 0 (by omega)
  have k4 := hV.depth
  go_enter Try.func30, Try.ntmps30
  go_wp2
  go_step3
  go_wp2
  go_quiet ((go_at_call 45; exact Calls.quiet_of (split_any T _ (by omega))))
  go_wp2
  go_region_with (go_at_call 51; refine (first_any (splitF T).2 _ (by omega)).mono ?_; rintro e w4 ⟨rfl, rfl⟩)
  go_wp2
  go_step3
  go_wp2
  refine wp_loop (BI bv L M (splitF T).1 R w) (fun a _ => BMu M a) ?_ ?_
  · exact ⟨rfl, rfl, rfl, rfl, rfl, rfl, 0, headV V (splitF T).2, rfl, ⟨Nat.zero_le _, (head_vat (hV.drewN _) _).drew, head_ok _ _, HR.out, (((((((((Ex.refl bv w).drewN _).setCell _ _).setCell _ _).setCell _ _).setCell _ _).setCell _ _).setCell _ _).drew)⟩⟩
  · intro a wx hI
    obtain ⟨hd, hs, h0, h1, h2, h8, k, U, h10, hRel⟩ := hI
    obtain ⟨s, rfl⟩ := frame30 a _ _ _ _ _ hd hs h0 h1 h2 h8 h10
    clear hd hs h0 h1 h2 h8 h10
    have hMx := hM.ex hRel.ex
    by_cases hlt : k < M.body.length
    · refine wp_then_mono (round_any bv L M (splitF T).1 R w _ _ k U s wx rfl ?_ hMx hRel hlt mo (by omega)) ?_
      · refine ⟨fun a wz hd h6 h7 hVz hEz => ?_⟩
        simp only [Exit.inBlock, Exit.then, Exit.noGoto_ret]
        refine bodyPost_ret (results_tmp2 rfl _ _ _) hd ?_
        exact ⟨by rw [h6, h7], hVz, hEz⟩
      · intro a wz hz
        exact hz
    · have f2 := hMx.f2
      have hle := hRel.le
      have HRR : Hid ((((M.body.length : Int), 11), U) = R) := by
        show _ = _
        have := hRel.run
        have e : k = M.body.length := by omega
        rw [e, List.drop_length] at this
        exact this
      have hVx := hRel.v
      have hEx := hRel.ex
      clear HR hRel z11 z12 z13 z14 z15 z40 c11 k0 k1 k2 k3 k4
      go_wp2
      try rw [Exit.noGoto_ret]
      go_ret2
      rw [← HRR.out]
      exact ⟨rfl, hVx, hEx⟩
end Go.Proofs.Qxb6500273a
