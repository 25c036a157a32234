/-
  PLAIN LEAN: the validator as functions on data. Nothing of Go, of the model or of the translation is imported.
-/
namespace Go.Proofs.Qxb6500273a

/-- The validator's two stacks as plain data. -/
structure VS where
  ops : Nat → Int
  height : Nat
  cop : Nat → Int
  res : Nat → Int
  flr : Nat → Nat
  dead : Nat → Bool
  depth : Nat
  high : Int

/-- A function turned at one place. -/
def upd {A : Type} (f : Nat → A) (i : Nat) (x : A) : Nat → A := fun j => if j = i then x else f j

/-- An instruction. -/
structure Insn where
  op : Int
  x : Int
  y : Int

def ins0 : Insn := ⟨0, 0, 0⟩

/-- The stacks' state is within its arrays. -/
structure VS.Ok (V : VS) : Prop where
  d1 : 1 ≤ V.depth
  d7 : V.depth ≤ 7
  h10 : V.height ≤ 10
  fl : V.flr (V.depth - 1) ≤ V.height
  mono : ∀ i j, i ≤ j → j < V.depth → V.flr i ≤ V.flr j

structure Expo where
  name : List UInt8
  kind : Int
  idx : Int
def exp0 : Expo := ⟨[], 0, 0⟩

structure Elmt where
  off : Int
  fns : List Int
def elm0 : Elmt := ⟨0, []⟩

/-- The frame module: what differs from one to the next. -/
structure Md where
  t1 : List UInt8
  it : Int
  ft : Int
  body : List Insn
  tabs : List Int
  tabMin : Int
  tabMax : Int
  memMin : Int
  memMax : Int
  gin : Nat → Int
  mut3 : Bool
  exps : List Expo
  start : Int
  elems : List Elmt
  datas : List Int

def typeText (M : Md) (i : Nat) : List UInt8 :=
  if i = 0 then [58] else if i = 1 then M.t1 else [127, 126, 125, 124, 58, 124]

/-- a type's parameters and results -/
def splitF : List UInt8 → List UInt8 × List UInt8
  | [] => ([], [])
  | c :: r => if c = 58 then ([], r) else (c :: (splitF r).1, (splitF r).2)

def firstF : List UInt8 → Int
  | [] => 64
  | c :: _ => (c.toNat : Int)

def typedF (ok : Bool) : Int := if ok then 0 else 27

def constOfF (op : Int) : Int := if 65 ≤ op ∧ op ≤ 68 then 192 - op else 0

def thereF (lo : Int) : Int := if lo < 0 then 0 else 1

def limitsF (lo hi most : Int) : Bool := if most < lo then false else hi == -1 || decide (lo ≤ hi)

def typeOfF (M : Md) (f : Int) : List UInt8 × Bool :=
  let t : Int := if f = 0 then M.it else if f = 1 then M.ft else -1
  if 0 ≤ t ∧ t < 3 then (typeText M t.toNat, true) else ([], false)

def localF (params decl : List UInt8) (x : Int) : Int × Bool :=
  if x < params.length then (((params.getD x.toNat 0).toNat : Int), true)
  else if x - params.length < decl.length then (((decl.getD (x - params.length).toNat 0).toNat : Int), true)
  else (0, false)

def numSigF (op : Int) : Int × Int × Int :=
  if op = 0x45 then (1, 127, 127)
  else if 0x46 ≤ op ∧ op ≤ 0x4F then (2, 127, 127)
  else if op = 0x50 then (1, 126, 127)
  else if 0x51 ≤ op ∧ op ≤ 0x5A then (2, 126, 127)
  else if 0x5B ≤ op ∧ op ≤ 0x60 then (2, 125, 127)
  else if 0x61 ≤ op ∧ op ≤ 0x66 then (2, 124, 127)
  else if 0x67 ≤ op ∧ op ≤ 0x69 then (1, 127, 127)
  else if 0x6A ≤ op ∧ op ≤ 0x78 then (2, 127, 127)
  else if 0x79 ≤ op ∧ op ≤ 0x7B then (1, 126, 126)
  else if 0x7C ≤ op ∧ op ≤ 0x8A then (2, 126, 126)
  else if 0x8B ≤ op ∧ op ≤ 0x91 then (1, 125, 125)
  else if 0x92 ≤ op ∧ op ≤ 0x98 then (2, 125, 125)
  else if 0x99 ≤ op ∧ op ≤ 0x9F then (1, 124, 124)
  else if 0xA0 ≤ op ∧ op ≤ 0xA6 then (2, 124, 124)
  else if op = 0xA7 then (1, 126, 127)
  else if op = 0xA8 ∨ op = 0xA9 ∨ op = 0xBC then (1, 125, 127)
  else if op = 0xAA ∨ op = 0xAB then (1, 124, 127)
  else if op = 0xAC ∨ op = 0xAD then (1, 127, 126)
  else if op = 0xAE ∨ op = 0xAF then (1, 125, 126)
  else if op = 0xB0 ∨ op = 0xB1 ∨ op = 0xBD then (1, 124, 126)
  else if op = 0xB2 ∨ op = 0xB3 ∨ op = 0xBE then (1, 127, 125)
  else if op = 0xB4 ∨ op = 0xB5 then (1, 126, 125)
  else if op = 0xB6 then (1, 124, 125)
  else if op = 0xB7 ∨ op = 0xB8 then (1, 127, 124)
  else if op = 0xB9 ∨ op = 0xBA ∨ op = 0xBF then (1, 126, 124)
  else if op = 0xBB then (1, 125, 124)
  else (0, 0, 0)

def memSigF (op : Int) : Int × Int × Bool :=
  if op = 0x28 ∨ op = 0x36 then (4, 127, false)
  else if op = 0x29 ∨ op = 0x37 then (8, 126, false)
  else if op = 0x2A ∨ op = 0x38 then (4, 125, false)
  else if op = 0x2B ∨ op = 0x39 then (8, 124, false)
  else if op = 0x2C then (1, 127, true)
  else if op = 0x2D ∨ op = 0x3A then (1, 127, false)
  else if op = 0x2E then (2, 127, true)
  else if op = 0x2F ∨ op = 0x3B then (2, 127, false)
  else if op = 0x30 then (1, 126, true)
  else if op = 0x31 ∨ op = 0x3C then (1, 126, false)
  else if op = 0x32 then (2, 126, true)
  else if op = 0x33 ∨ op = 0x3D then (2, 126, false)
  else if op = 0x34 then (4, 126, true)
  else if op = 0x35 ∨ op = 0x3E then (4, 126, false)
  else (0, 0, false)

/-! ### The operand stack -/

def popF (V : VS) (want : Int) : Int × Bool × VS :=
  if V.height = V.flr (V.depth - 1) then (want, V.dead (V.depth - 1), V)
  else if V.ops (V.height - 1) = 0 then (want, true, { V with height := V.height - 1 })
  else (V.ops (V.height - 1), decide (want = 0) || decide (V.ops (V.height - 1) = want), { V with height := V.height - 1 })

/-- the operands ts, in the order in which they are taken -/
def popsL (V : VS) : List UInt8 → Bool × VS
  | [] => (true, V)
  | t :: r => if (popF V (t.toNat : Int)).2.1 = true then popsL (popF V (t.toNat : Int)).2.2 r else (false, (popF V (t.toNat : Int)).2.2)

def popsF (V : VS) (ts : List UInt8) : Bool × VS := popsL V ts.reverse

def carryF (V : VS) (t : Int) : Bool × VS := if t = 64 then (true, V) else ((popF V t).2.1, (popF V t).2.2)

def fitsF (V : VS) (t : Int) : Bool :=
  if t = 64 then true
  else if V.height = V.flr (V.depth - 1) then V.dead (V.depth - 1)
  else decide (V.ops (V.height - 1) = 0) || decide (V.ops (V.height - 1) = t)

def pushF (V : VS) (t : Int) : Bool × VS :=
  if 10 ≤ V.height then (false, V)
  else (true, { V with ops := upd V.ops V.height t, height := V.height + 1, high := max V.high ((V.height + 1 : Nat) : Int) })

def cutF (V : VS) : VS := { V with height := V.flr (V.depth - 1), dead := upd V.dead (V.depth - 1) true }

def labelF (V : VS) (l : Nat) : Int := if V.cop (V.depth - 1 - l) = 3 then 64 else V.res (V.depth - 1 - l)

def settledF (V : VS) : Bool × VS :=
  if (carryF V (V.res (V.depth - 1))).1 = true then (decide ((carryF V (V.res (V.depth - 1))).2.height = (carryF V (V.res (V.depth - 1))).2.flr (V.depth - 1)), (carryF V (V.res (V.depth - 1))).2)
  else (false, (carryF V (V.res (V.depth - 1))).2)

/-! ### The instructions that turn no control -/

def selF (V : VS) : Int × Int × VS :=
  let q := carryF V 127
  if q.1 = true then
    let a := popF q.2 0
    if a.2.1 = true then
      let c := popF a.2.2 a.1
      (c.1, typedF c.2.1, c.2.2)
    else (64, 27, a.2.2)
  else (64, 27, q.2)

/-- 2^x is above the width -/
def wide (w x : Int) : Bool := decide (3 < x) || decide (w / (2 ^ x.toNat) = 0)

def memoryF (M : Md) (V : VS) (x : Insn) : Int × Int × VS :=
  if M.memMin < 0 then (64, 20, V)
  else if x.op = 63 then (127, 0, V)
  else if x.op ≤ 62 then
    if wide (memSigF x.op).1 x.x = true then (64, 26, V)
    else if 54 ≤ x.op then
      let q := carryF V (memSigF x.op).2.1
      if q.1 = true then
        let r := carryF q.2 127
        (64, typedF r.1, r.2)
      else (64, 27, q.2)
    else
      let r := carryF V 127
      ((memSigF x.op).2.1, typedF r.1, r.2)
  else
    let r := carryF V 127
    (127, typedF r.1, r.2)

def callEnd (V : VS) (t : List UInt8) : Int × Int × VS :=
  let r := popsF V (splitF t).1
  (firstF (splitF t).2, typedF r.1, r.2)

def callF (M : Md) (V : VS) (x : Insn) : Int × Int × VS :=
  if x.op = 16 then
    if (typeOfF M x.x).2 = true then callEnd V (typeOfF M x.x).1 else (64, 15, V)
  else if M.tabMin < 0 then (64, 21, V)
  else if 3 ≤ x.x then (64, 14, V)
  else
    let q := carryF V 127
    if q.1 = true then callEnd q.2 (typeText M x.x.toNat) else (64, 27, q.2)

/-- the frame's four value types -/
def allFour : List UInt8 := [127, 126, 125, 124]

def gType (i : Nat) : Int := 127 - (i : Int)
def gMut (M : Md) (i : Nat) : Bool := if i = 3 then M.mut3 else true

def plainF (M : Md) (V : VS) (params : List UInt8) (x : Insn) : Int × Int × VS :=
  if x.op = 16 ∨ x.op = 17 then callF M V x
  else if x.op = 26 then (64, typedF (popF V 0).2.1, (popF V 0).2.2)
  else if x.op = 27 then selF V
  else if 32 ≤ x.op ∧ x.op ≤ 34 then
    if (localF params allFour x.x).2 = true then
      if x.op = 32 then ((localF params allFour x.x).1, 0, V)
      else
        let q := carryF V (localF params allFour x.x).1
        (if x.op = 33 then 64 else (localF params allFour x.x).1, typedF q.1, q.2)
    else (64, 22, V)
  else if x.op = 35 ∨ x.op = 36 then
    if 4 ≤ x.x then (64, 23, V)
    else if x.op = 35 then (gType x.x.toNat, 0, V)
    else if gMut M x.x.toNat = true then
      let q := carryF V (gType x.x.toNat)
      (64, typedF q.1, q.2)
    else (64, 24, V)
  else if 40 ≤ x.op ∧ x.op ≤ 64 then memoryF M V x
  else if 65 ≤ x.op ∧ x.op ≤ 68 then (constOfF x.op, 0, V)
  else if (numSigF x.op).1 = 0 then (64, 10, V)
  else
    let q := carryF V (numSigF x.op).2.1
    if q.1 = true ∧ (numSigF x.op).1 = 2 then
      let r := carryF q.2 (numSigF x.op).2.1
      ((numSigF x.op).2.2, typedF r.1, r.2)
    else ((numSigF x.op).2.2, typedF q.1, q.2)

/-! ### A body -/

/-- what follows an instruction: its error, or what it gives is laid -/
def after (pc : Nat) (r : Int × Int × VS) : Option (Int × Int) × VS :=
  if r.2.1 ≠ 0 then (some (pc, r.2.1), r.2.2)
  else if r.1 ≠ 64 then
    if (pushF r.2.2 r.1).1 = true then (none, (pushF r.2.2 r.1).2) else (some (pc, 28), (pushF r.2.2 r.1).2)
  else (none, r.2.2)

/-- block | loop | if, behind the if's operand -/
def openF (V : VS) (pc : Nat) (x : Insn) : Option (Int × Int) × VS :=
  if 6 < V.depth then (some ((pc : Int) + 1, 11), V)
  else (none, { V with cop := upd V.cop V.depth x.op, res := upd V.res V.depth (x.x % 256), flr := upd V.flr V.depth V.height, dead := upd V.dead V.depth false, depth := V.depth + 1 })

def elseF (V : VS) (pc : Nat) : Option (Int × Int) × VS :=
  let s := settledF V
  if s.1 = true then
    if s.2.depth = 1 then (some ((pc : Int) + 1, 11), s.2)
    else if s.2.cop (s.2.depth - 1) ≠ 4 then (some (pc, 11), s.2)
    else (none, { s.2 with cop := upd s.2.cop (s.2.depth - 1) 5, dead := upd s.2.dead (s.2.depth - 1) false })
  else (some (pc, 27), s.2)

def endF (V : VS) (n pc : Nat) : Option (Int × Int) × VS :=
  let s := settledF V
  if s.1 = true then
    let j := s.2.depth - 1
    if s.2.cop j = 4 ∧ s.2.res j ≠ 64 then (some (pc, 27), s.2)
    else
      let V1 := { s.2 with depth := j }
      if j = 0 then
        if pc + 1 ≠ n then (some ((pc : Int) + 1, 11), V1) else (some (0, 0), V1)
      else after pc (s.2.res j, 0, V1)
  else (some (pc, 27), s.2)

def brF (V : VS) (pc : Nat) (x : Insn) : Option (Int × Int) × VS :=
  if (V.depth : Int) ≤ x.x then (some (pc, 25), V)
  else
    let q := carryF V (labelF V x.x.toNat)
    if q.1 = true then (none, cutF q.2) else (some (pc, 27), q.2)

def brIfF (V : VS) (pc : Nat) (x : Insn) : Option (Int × Int) × VS :=
  let q := carryF V 127
  if q.1 = true then
    if (q.2.depth : Int) ≤ x.x then (some (pc, 25), q.2)
    else
      let r := carryF q.2 (labelF q.2 x.x.toNat)
      if r.1 = true then after pc (labelF q.2 x.x.toNat, 0, r.2) else (some (pc, 27), r.2)
  else (some (pc, 27), q.2)

/-- the labels of a br_table, one by one: the first that fails -/
def tabGo (V : VS) (def_ : Int) : List Int → Option Int
  | [] => none
  | t :: r =>
    if (V.depth : Int) ≤ t then some 25
    else if decide (labelF V t.toNat = 64) ≠ decide (def_ = 64) then some 27
    else if fitsF V (labelF V t.toNat) = true then tabGo V def_ r
    else some 27

def brTableF (V : VS) (pc : Nat) (tabs : List Int) (x : Insn) : Option (Int × Int) × VS :=
  let q := carryF V 127
  if q.1 = true then
    if x.y < 1 ∨ (tabs.length : Int) < x.y ∨ (tabs.length : Int) - x.y < x.x then (some (pc, 11), q.2)
    else
      let ls := (tabs.drop x.x.toNat).take x.y.toNat
      let last := tabs.getD (x.x + x.y - 1).toNat 0
      if (q.2.depth : Int) ≤ last then (some (pc, 25), q.2)
      else
        match tabGo q.2 (labelF q.2 last.toNat) ls with
        | some e => (some (pc, e), q.2)
        | none => (none, cutF q.2)
  else (some (pc, 27), q.2)

def retF (V : VS) (pc : Nat) : Option (Int × Int) × VS :=
  let q := carryF V (V.res 0)
  if q.1 = true then (none, cutF q.2) else (some (pc, 27), q.2)

/-- one instruction of a body of n: 'some': the body's answer -/
def stepF (M : Md) (params : List UInt8) (n pc : Nat) (V : VS) (x : Insn) : Option (Int × Int) × VS :=
  if x.op = 1 then (none, V)
  else if x.op = 0 then (none, cutF V)
  else if x.op = 2 ∨ x.op = 3 then openF V pc x
  else if x.op = 4 then
    if (carryF V 127).1 = true then openF (carryF V 127).2 pc x else (some (pc, 27), (carryF V 127).2)
  else if x.op = 5 then elseF V pc
  else if x.op = 11 then endF V n pc
  else if x.op = 12 then brF V pc x
  else if x.op = 13 then brIfF V pc x
  else if x.op = 14 then brTableF V pc M.tabs x
  else if x.op = 15 then retF V pc
  else after pc (plainF M V params x)

/-- the instructions from pc on -/
def runF (M : Md) (params : List UInt8) (n : Nat) : Nat → VS → List Insn → (Int × Int) × VS
  | pc, V, [] => (((pc : Int), 11), V)
  | pc, V, x :: r =>
    match stepF M params n pc V x with
    | (some e, V') => (e, V')
    | (none, V') => runF M params n (pc + 1) V' r

/-- the stacks at a body's head -/
def headV (V : VS) (results : List UInt8) : VS :=
  { V with height := 0, cop := upd V.cop 0 2, res := upd V.res 0 (firstF results), flr := upd V.flr 0 0, dead := upd V.dead 0 false, depth := 1 }

def bodyF (M : Md) (V : VS) : (Int × Int) × VS :=
  runF M (splitF (typeText M M.ft.toNat)).1 M.body.length 0 (headV V (splitF (typeText M M.ft.toNat)).2) M.body

/-! ### All of a module but its body -/

/-- the first of n places, from i on, at which f finds fault -/
def firstBad (f : Nat → Option Int) : Nat → Nat → Int × Int
  | _, 0 => (0, 0)
  | i, k + 1 => match f i with
    | some e => ((i : Int), e)
    | none => firstBad f (i + 1) k

def typeBad (M : Md) (i : Nat) : Option Int := if (typeOfF M i).2 = true then none else some 14
def globBad (M : Md) (i : Nat) : Option Int := if constOfF (M.gin i) = gType i then none else some 27
def expCount (M : Md) (kind : Int) : Int := if kind = 1 then thereF M.tabMin else if kind = 2 then thereF M.memMin else if kind = 3 then 4 else 2
/-- an earlier export bears the name -/
def dupB (es : List Expo) (nm : List UInt8) : Nat → Bool
  | 0 => false
  | j + 1 => dupB es nm j || decide ((es.getD j exp0).name = nm)
def expBad (M : Md) (i : Nat) : Option Int :=
  if expCount M (M.exps.getD i exp0).kind ≤ (M.exps.getD i exp0).idx then some 17
  else if dupB M.exps (M.exps.getD i exp0).name i = true then some 18 else none
/-- one of the first j functions of a segment is not there -/
def fnsBad (l : List Int) : Nat → Bool
  | 0 => false
  | j + 1 => fnsBad l j || decide (2 ≤ l.getD j 0)
def elemBad (M : Md) (i : Nat) : Option Int :=
  if M.tabMin < 0 then some 21
  else if (M.elems.getD i elm0).off ≠ 65 then some 27
  else if fnsBad (M.elems.getD i elm0).fns (M.elems.getD i elm0).fns.length = true then some 15 else none
def dataBad (M : Md) (i : Nat) : Option Int :=
  if M.memMin < 0 then some 20
  else if M.datas.getD i 0 ≠ 65 then some 27 else none

def segF (M : Md) : Int × Int :=
  if (firstBad (elemBad M) 0 M.elems.length).2 ≠ 0 then firstBad (elemBad M) 0 M.elems.length
  else firstBad (dataBad M) 0 M.datas.length

def startF (M : Md) : Option Int :=
  if M.start = -1 then none
  else if (typeOfF M M.start).2 = true then
    if (typeOfF M M.start).1 = [58] then none else some 19
  else some 15

def partsF (M : Md) : Int × Int :=
  if (firstBad (typeBad M) 0 2).2 ≠ 0 then firstBad (typeBad M) 0 2
  else if limitsF M.tabMin M.tabMax 8 = false then (0, 16)
  else if limitsF M.memMin M.memMax 6 = false then (1, 16)
  else if (firstBad (globBad M) 0 4).2 ≠ 0 then firstBad (globBad M) 0 4
  else if (firstBad (expBad M) 0 M.exps.length).2 ≠ 0 then firstBad (expBad M) 0 M.exps.length
  else match startF M with
    | some e => (0, e)
    | none => segF M

def validateF (M : Md) (V : VS) : (Int × Int × Int) × VS :=
  if (partsF M).2 ≠ 0 then ((-1, (partsF M).1, (partsF M).2), V)
  else if (bodyF M V).1.2 ≠ 0 then ((0, (bodyF M V).1.1, (bodyF M V).1.2), (bodyF M V).2)
  else ((1, 0, 0), (bodyF M V).2)

/-! ### The plain functions keep the stacks within their arrays -/

theorem VS.Ok.lower {V : VS} (ok : V.Ok) (h : Nat) (h1 : V.flr (V.depth - 1) ≤ h) (h2 : h ≤ V.height) : VS.Ok { V with height := h } :=
  ⟨ok.d1, ok.d7, Nat.le_trans h2 ok.h10, h1, ok.mono⟩

theorem popF_ok {V : VS} (ok : V.Ok) (want : Int) : (popF V want).2.2.Ok := by
  have := ok.fl
  unfold popF
  split
  · exact ok
  · have h := ok.lower (V.height - 1) (by omega) (by omega)
    split <;> exact h

theorem popF_same (V : VS) (want : Int) : (popF V want).2.2.depth = V.depth ∧ (popF V want).2.2.flr = V.flr ∧ (popF V want).2.2.cop = V.cop ∧ (popF V want).2.2.res = V.res ∧ (popF V want).2.2.dead = V.dead ∧ (popF V want).2.2.ops = V.ops := by
  unfold popF
  split
  · simp
  · split <;> simp

theorem carryF_ok {V : VS} (ok : V.Ok) (t : Int) : (carryF V t).2.Ok := by
  unfold carryF
  split
  · exact ok
  · exact popF_ok ok t

theorem carryF_same (V : VS) (t : Int) : (carryF V t).2.depth = V.depth ∧ (carryF V t).2.flr = V.flr ∧ (carryF V t).2.cop = V.cop ∧ (carryF V t).2.res = V.res ∧ (carryF V t).2.dead = V.dead ∧ (carryF V t).2.ops = V.ops := by
  unfold carryF
  split
  · simp
  · exact popF_same V t

theorem popsL_ok : ∀ (l : List UInt8) {V : VS}, V.Ok → (popsL V l).2.Ok
  | [], _, ok => ok
  | t :: r, V, ok => by
    unfold popsL
    split
    · exact popsL_ok r (popF_ok ok _)
    · exact popF_ok ok _

theorem popsF_ok {V : VS} (ok : V.Ok) (ts : List UInt8) : (popsF V ts).2.Ok := popsL_ok _ ok

theorem settledF_snd (V : VS) : (settledF V).2 = (carryF V (V.res (V.depth - 1))).2 := by
  unfold settledF
  split <;> rfl

theorem settledF_ok {V : VS} (ok : V.Ok) : (settledF V).2.Ok := by rw [settledF_snd]; exact carryF_ok ok _

theorem pushF_ok {V : VS} (ok : V.Ok) (t : Int) : (pushF V t).2.Ok := by
  unfold pushF
  split
  · exact ok
  · exact ⟨ok.d1, ok.d7, by simp only []; omega, by have := ok.fl; simp only []; omega, ok.mono⟩

theorem cutF_ok {V : VS} (ok : V.Ok) : (cutF V).Ok :=
  ⟨ok.d1, ok.d7, by have := ok.fl; have := ok.h10; simp only [cutF]; omega, by simp [cutF], ok.mono⟩

theorem selF_ok {V : VS} (ok : V.Ok) : (selF V).2.2.Ok := by
  unfold selF
  simp only []
  split
  · split
    · exact popF_ok (popF_ok (carryF_ok ok _) _) _
    · exact popF_ok (carryF_ok ok _) _
  · exact carryF_ok ok _

theorem memoryF_ok (M : Md) {V : VS} (ok : V.Ok) (x : Insn) : (memoryF M V x).2.2.Ok := by
  unfold memoryF
  simp only []
  repeat' split
  all_goals first | exact ok | exact carryF_ok ok _ | exact carryF_ok (carryF_ok ok _) _

theorem callEnd_ok {V : VS} (ok : V.Ok) (t : List UInt8) : (callEnd V t).2.2.Ok := popsF_ok ok _

theorem callF_ok (M : Md) {V : VS} (ok : V.Ok) (x : Insn) : (callF M V x).2.2.Ok := by
  unfold callF
  simp only []
  repeat' split
  all_goals first | exact ok | exact carryF_ok ok _ | exact callEnd_ok ok _ | exact callEnd_ok (carryF_ok ok _) _

theorem plainF_ok (M : Md) {V : VS} (ok : V.Ok) (params : List UInt8) (x : Insn) : (plainF M V params x).2.2.Ok := by
  unfold plainF
  simp only []
  repeat' split
  all_goals first | exact ok | exact callF_ok M ok x | exact memoryF_ok M ok x | exact selF_ok ok | exact popF_ok ok _ | exact carryF_ok ok _ | exact carryF_ok (carryF_ok ok _) _

end Go.Proofs.Qxb6500273a
