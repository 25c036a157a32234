/-
  PLAIN LEAN: the set of bad parts: the earliest decides.
-/
import Derived.Test.Qxb6500273aLaw2
namespace Go.Proofs.Qxb6500273a

def o10 (b : Bool) (M : Md) : Md := if b = true then { M with datas := [66] } else M
def o9 (b : Bool) (M : Md) : Md := if b = true then { M with elems := [⟨65, [0]⟩, ⟨66, [0]⟩] } else M
def o8 (b : Bool) (M : Md) : Md := if b = true then { M with start := 5 } else M
def o7 (b : Bool) (M : Md) : Md := if b = true then { M with exps := [⟨[98], 0, 1⟩, ⟨[98], 2, 0⟩] } else M
def o6 (b t : Bool) (M : Md) : Md := if b = true then (if t = true then { M with exps := [⟨[98], 0, 1⟩, ⟨[98], 0, 9⟩] } else { M with exps := [⟨[98], 0, 9⟩] }) else M
def o5 (b : Bool) (M : Md) : Md := if b = true then { M with gin := upd M.gin 2 65 } else M
def o4 (b : Bool) (M : Md) : Md := if b = true then { M with memMin := 7 } else M
def o3 (b : Bool) (M : Md) : Md := if b = true then { M with tabMin := 9 } else M
def o2 (b : Bool) (M : Md) : Md := if b = true then { M with ft := 3 } else M
def o1 (b : Bool) (M : Md) : Md := if b = true then { M with it := 3 } else M

def rw_ (b : Bool) (r e : Int) (p : Int × Int) : Int × Int := if b = true then (r, e) else p
def tw (b : Bool) : Int := if b = true then 1 else 0

/-- the module's fields, by the set -/
structure OrdM (M : Md) (b1 b2 b3 b4 b5 b6 b7 b8 b9 b10 : Bool) : Prop where
  t1 : M.t1 = [127, 58, 127]
  it : M.it = if b1 = true then 3 else 1
  ft : M.ft = if b2 = true then 3 else 0
  body : M.body = [⟨11, 0, 0⟩]
  tabs : M.tabs = []
  tabMin : M.tabMin = if b3 = true then 9 else 1
  tabMax : M.tabMax = -1
  memMin : M.memMin = if b4 = true then 7 else 1
  memMax : M.memMax = -1
  gin : ∀ i, M.gin i = if b5 = true ∧ i = 2 then 65 else 65 + (i : Int)
  exps : M.exps = if b6 = true then (if b7 = true then [⟨[98], 0, 1⟩, ⟨[98], 0, 9⟩] else [⟨[98], 0, 9⟩]) else if b7 = true then [⟨[98], 0, 1⟩, ⟨[98], 2, 0⟩] else []
  start : M.start = if b8 = true then 5 else -1
  elems : M.elems = if b9 = true then [⟨65, [0]⟩, ⟨66, [0]⟩] else []
  datas : M.datas = if b10 = true then [66] else []

theorem ord_start {M : Md} (h : M = mod0 0 [⟨11, 0, 0⟩] []) : OrdM M false false false false false false false false false false := by
  subst h
  exact ⟨rfl, rfl, rfl, rfl, rfl, rfl, rfl, rfl, rfl, fun i => by simp [mod0], rfl, rfl, rfl, rfl⟩

theorem ord_all (M : Md) (hM : M = mod0 0 [⟨11, 0, 0⟩] []) (b1 b2 b3 b4 b5 b6 b7 b8 b9 b10 : Bool) :
    OrdM (o1 b1 (o2 b2 (o3 b3 (o4 b4 (o5 b5 (o6 b6 b7 (o7 b7 (o8 b8 (o9 b9 (o10 b10 M)))))))))) b1 b2 b3 b4 b5 b6 b7 b8 b9 b10 := by
  have h0 := ord_start hM
  clear hM
  have h10 : OrdM (o10 b10 M) false false false false false false false false false b10 := by
    cases b10
    · exact h0
    · exact ⟨h0.t1, h0.it, h0.ft, h0.body, h0.tabs, h0.tabMin, h0.tabMax, h0.memMin, h0.memMax, h0.gin, h0.exps, h0.start, h0.elems, rfl⟩
  generalize o10 b10 M = M10 at *
  have h9 : OrdM (o9 b9 M10) false false false false false false false false b9 b10 := by
    cases b9
    · exact h10
    · exact ⟨h10.t1, h10.it, h10.ft, h10.body, h10.tabs, h10.tabMin, h10.tabMax, h10.memMin, h10.memMax, h10.gin, h10.exps, h10.start, rfl, h10.datas⟩
  generalize o9 b9 M10 = M9 at *
  have h8 : OrdM (o8 b8 M9) false false false false false false false b8 b9 b10 := by
    cases b8
    · exact h9
    · exact ⟨h9.t1, h9.it, h9.ft, h9.body, h9.tabs, h9.tabMin, h9.tabMax, h9.memMin, h9.memMax, h9.gin, h9.exps, rfl, h9.elems, h9.datas⟩
  generalize o8 b8 M9 = M8 at *
  have h7 : OrdM (o7 b7 M8) false false false false false false b7 b8 b9 b10 := by
    cases b7
    · exact h8
    · exact ⟨h8.t1, h8.it, h8.ft, h8.body, h8.tabs, h8.tabMin, h8.tabMax, h8.memMin, h8.memMax, h8.gin, rfl, h8.start, h8.elems, h8.datas⟩
  generalize o7 b7 M8 = M7 at *
  have h6 : OrdM (o6 b6 b7 M7) false false false false false b6 b7 b8 b9 b10 := by
    cases b6
    · exact h7
    · cases b7
      · exact ⟨h7.t1, h7.it, h7.ft, h7.body, h7.tabs, h7.tabMin, h7.tabMax, h7.memMin, h7.memMax, h7.gin, rfl, h7.start, h7.elems, h7.datas⟩
      · exact ⟨h7.t1, h7.it, h7.ft, h7.body, h7.tabs, h7.tabMin, h7.tabMax, h7.memMin, h7.memMax, h7.gin, rfl, h7.start, h7.elems, h7.datas⟩
  generalize o6 b6 b7 M7 = M6 at *
  have h5 : OrdM (o5 b5 M6) false false false false b5 b6 b7 b8 b9 b10 := by
    cases b5
    · exact h6
    · refine ⟨h6.t1, h6.it, h6.ft, h6.body, h6.tabs, h6.tabMin, h6.tabMax, h6.memMin, h6.memMax, fun i => ?_, h6.exps, h6.start, h6.elems, h6.datas⟩
      show upd M6.gin 2 65 i = _
      have := h6.gin i
      unfold upd
      by_cases e : i = 2
      · simp [e]
      · simp [e, this]
  generalize o5 b5 M6 = M5 at *
  have h4 : OrdM (o4 b4 M5) false false false b4 b5 b6 b7 b8 b9 b10 := by
    cases b4
    · exact h5
    · exact ⟨h5.t1, h5.it, h5.ft, h5.body, h5.tabs, h5.tabMin, h5.tabMax, rfl, h5.memMax, h5.gin, h5.exps, h5.start, h5.elems, h5.datas⟩
  generalize o4 b4 M5 = M4 at *
  have h3 : OrdM (o3 b3 M4) false false b3 b4 b5 b6 b7 b8 b9 b10 := by
    cases b3
    · exact h4
    · exact ⟨h4.t1, h4.it, h4.ft, h4.body, h4.tabs, rfl, h4.tabMax, h4.memMin, h4.memMax, h4.gin, h4.exps, h4.start, h4.elems, h4.datas⟩
  generalize o3 b3 M4 = M3 at *
  have h2 : OrdM (o2 b2 M3) false b2 b3 b4 b5 b6 b7 b8 b9 b10 := by
    cases b2
    · exact h3
    · exact ⟨h3.t1, h3.it, rfl, h3.body, h3.tabs, h3.tabMin, h3.tabMax, h3.memMin, h3.memMax, h3.gin, h3.exps, h3.start, h3.elems, h3.datas⟩
  generalize o2 b2 M3 = M2 at *
  cases b1
  · exact h2
  · exact ⟨h2.t1, rfl, h2.ft, h2.body, h2.tabs, h2.tabMin, h2.tabMax, h2.memMin, h2.memMax, h2.gin, h2.exps, h2.start, h2.elems, h2.datas⟩

theorem ord_good (M : Md) (b1 b2 b3 b4 b5 b6 b7 b8 b9 b10 : Bool) (h : OrdM M b1 b2 b3 b4 b5 b6 b7 b8 b9 b10) : MdOk M ∧ PartOk M := by
  refine ⟨mo_user 0 (by rw [h.t1]; simp) (by rw [h.body]; rfl) h.tabs, ?_⟩
  refine ⟨?_, ?_, ?_, ?_, ?_, ?_, ?_⟩
  · rw [h.exps]; cases b6 <;> cases b7 <;> simp
  · rw [h.exps]
    cases b6 <;> cases b7
    · simp
    · exact two3 (by simp) (by simp)
    · exact one3 (by simp)
    · exact two3 (by simp) (by simp)
  · rw [h.elems]; cases b9 <;> simp
  · rw [h.elems]
    cases b9
    · simp
    · have k : ∀ j, 0 ≤ ([0] : List Int).getD j 0 ∧ ([0] : List Int).getD j 0 ≤ 4294967295 := fun j => by
        match j with
        | 0 => simp
        | j + 1 => simp
      exact two3 ⟨by simp, k⟩ ⟨by simp, k⟩
  · rw [h.datas]; cases b10 <;> simp
  · intro i hi
    rw [h.gin i]
    split <;> omega
  · rw [h.start]; cases b8 <;> simp

theorem ord_owes (M : Md) (b1 b2 b3 b4 b5 b6 b7 b8 b9 b10 : Bool) (h : OrdM M b1 b2 b3 b4 b5 b6 b7 b8 b9 b10) (p : Int × Int)
    (hp : p = rw_ b1 0 14 (rw_ b2 1 14 (rw_ b3 0 16 (rw_ b4 1 16 (rw_ b5 2 27 (rw_ b6 (tw b7) 17 (rw_ b7 1 18 (rw_ b8 0 15 (rw_ b9 1 27 (rw_ b10 0 27 (0, 0))))))))))) : Owes M p.1 p.2 := by
  obtain ⟨mo, po⟩ := ord_good M _ _ _ _ _ _ _ _ _ _ h
  refine ⟨fun V => ?_, mo, po⟩
  cases b1
  case true => subst hp; exact validate_bad (parts_imp (by rw [h.it]; simp)) (by simp [rw_])
  have i0 : 0 ≤ M.it := by rw [h.it]; simp
  have i2 : M.it ≤ 2 := by rw [h.it]; simp
  cases b2
  case true => subst hp; exact validate_bad (parts_own i0 i2 (by rw [h.ft]; simp)) (by simp [rw_])
  have f0 : 0 ≤ M.ft := by rw [h.ft]; simp
  have f2 : M.ft ≤ 2 := by rw [h.ft]; simp
  have hT := types_ok i0 i2 f0 f2
  cases b3
  case true => subst hp; exact validate_bad (parts_tab hT (by rw [h.tabMin, h.tabMax]; rfl)) (by simp [rw_])
  have hL : limitsF M.tabMin M.tabMax 8 = true := by rw [h.tabMin, h.tabMax]; rfl
  cases b4
  case true => subst hp; exact validate_bad (parts_mem hT hL (by rw [h.memMin, h.memMax]; rfl)) (by simp [rw_])
  have hm : limitsF M.memMin M.memMax 6 = true := by rw [h.memMin, h.memMax]; rfl
  have tm : M.tabMin = 1 := by rw [h.tabMin]; rfl
  have mm : M.memMin = 1 := by rw [h.memMin]; rfl
  cases b5
  case true =>
    subst hp
    refine validate_bad (parts_glob hT hL hm ?_ (by simp [rw_])) (by simp [rw_])
    have k : ∀ i, i < 4 → i ≠ 2 → globBad M i = none := fun i hi hne => by
      rw [globBad_of M i (65 + i) (by rw [h.gin i, if_neg (by simp [hne])]), if_pos]
      unfold constOfF gType
      rw [if_pos (by omega)]; omega
    have k2 : globBad M 2 = some 27 := by
      rw [globBad_of M 2 65 (by rw [h.gin 2]; simp)]
      simp [constOfF, gType]
    simp [firstBad, k, k2, rw_]
  have hr := parts_rest hT hL hm (globs_ok (M := M) fun i hi => by rw [h.gin i]; simp)
  cases b6
  case true =>
    subst hp
    have hx := h.exps
    refine validate_bad (hr.trans ?_) (by simp [rw_])
    cases b7
    · simp only [if_true, Bool.false_eq_true, if_false] at hx
      simp [restF, hx, firstBad, expBad, expCount, tw, rw_]
    · simp only [if_true] at hx
      simp [restF, hx, firstBad, expBad, expCount, dupB, tw, rw_]
  cases b7
  case true =>
    subst hp
    have hx := h.exps
    simp only [if_true, Bool.false_eq_true, if_false] at hx
    refine validate_bad (hr.trans ?_) (by simp [rw_])
    simp [restF, hx, firstBad, expBad, expCount, thereF, mm, dupB, rw_]
  have hx : M.exps = [] := by rw [h.exps]; rfl
  cases b8
  case true =>
    subst hp
    refine validate_bad (hr.trans ?_) (by simp [rw_])
    have hs : M.start = 5 := by rw [h.start]; rfl
    simp [restF, hx, firstBad, startF, hs, typeOfF, rw_]
  have hs : M.start = -1 := by rw [h.start]; rfl
  cases b9
  case true =>
    subst hp
    refine validate_bad (hr.trans ?_) (by simp [rw_])
    have he : M.elems = [⟨65, [0]⟩, ⟨66, [0]⟩] := by rw [h.elems]; rfl
    simp [restF, hx, firstBad, startF, hs, segF, he, elemBad, tm, fnsBad, rw_]
  have he : M.elems = [] := by rw [h.elems]; rfl
  cases b10
  case true =>
    subst hp
    refine validate_bad (hr.trans ?_) (by simp [rw_])
    have hd : M.datas = [66] := by rw [h.datas]; rfl
    simp [restF, hx, firstBad, startF, hs, segF, he, hd, dataBad, mm, rw_]
  have hd : M.datas = [] := by rw [h.datas]; rfl
  subst hp
  refine validate_good (r := 0) (hr.trans ?_) (body_empty V (by rw [h.ft]; rfl) h.body) 0
  simp [restF, hx, firstBad, startF, hs, segF, he, hd]

end Go.Proofs.Qxb6500273a
