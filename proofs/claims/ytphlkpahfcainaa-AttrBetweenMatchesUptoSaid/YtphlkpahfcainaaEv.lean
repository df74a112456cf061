/- The pure evaluator: what the code of a function does with values (numbers, texts, lists, tuples), without memory. -/
import GoSem.Dispatch
namespace Go.Ev
set_option linter.unusedVariables false

/-- The kinds of plain values. -/
inductive Ty where
  | int (k : IntKind)
  | bool
  | str
  | list (e : Ty)
  | pair (a b : Ty)
  deriving DecidableEq

@[reducible] def Ty.den : Ty → Type
  | .int _ => Int
  | .bool => Bool
  | .str => List UInt8
  | .list e => List e.den
  | .pair a b => a.den × b.den

def Ty.sz : Ty → Nat
  | .pair a b => a.sz + b.sz
  | _ => 1

def Ty.zero : (t : Ty) → t.den
  | .int _ => (0 : Int)
  | .bool => false
  | .str => ([] : List UInt8)
  | .list _ => []
  | .pair a b => (a.zero, b.zero)

/-- What is told of a type: its plain kind, its fields (first cell, type), its elements' type, its size in bytes; `agg`: a struct. -/
structure TI where
  ty : Ty
  agg : Bool
  fs : List (Nat × TypeId)
  el : TypeId
  bytes : Nat
  cmp : Bool := false

/-- A place: leaf `i` of slot `t`. -/
structure Pl where
  t : Nat
  i : Nat
  deriving DecidableEq

inductive Leaf where
  | val (t : Ty) (x : t.den)
  | own (te : TypeId) (e : Ty) (xs : List e.den)
  | al (p : Pl)
  | nils
  | ptr (b : Nat) (o : Nat)
  | ept (p : Pl) (e : Ty) (i : Int) (o : Nat)
  | vpt (t : Ty) (x : t.den)
  | clo (f : FuncId) (bs : List Nat)
  | cst (v : Value)
  | no
  | und

inductive Slot where
  | cs (agg : Bool) (ls : List Leaf)
  | box (ls : List Leaf)
  | tup (ks : List (Bool × Nat)) (ls : List Leaf)

abbrev St := List Slot

def nones : Slot := .cs false [.und]

def gs : St → Nat → Slot
  | [], _ => nones
  | s :: _, 0 => s
  | _ :: σ, n + 1 => gs σ n

def ss : St → Nat → Slot → St
  | [], _, _ => []
  | _ :: σ, 0, x => x :: σ
  | s :: σ, n + 1, x => s :: ss σ n x

def Slot.leaves : Slot → List Leaf
  | .cs _ ls => ls
  | .box ls => ls
  | .tup _ ls => ls

def Slot.with (ls : List Leaf) : Slot → Slot
  | .cs a _ => .cs a ls
  | .box _ => .box ls
  | .tup k _ => .tup k ls

def lget : List Leaf → Nat → Leaf
  | [], _ => .und
  | l :: _, 0 => l
  | _ :: ls, n + 1 => lget ls n

def lset : List Leaf → Nat → Leaf → List Leaf
  | [], _, _ => []
  | _ :: ls, 0, x => x :: ls
  | l :: ls, n + 1, x => l :: lset ls n x

def gl (σ : St) (p : Pl) : Leaf := lget (gs σ p.t).leaves p.i
def sl (σ : St) (p : Pl) (l : Leaf) : St := let s := gs σ p.t; ss σ p.t (s.with (lset s.leaves p.i l))

/-- A leaf as it is read: what is owned is told by its place. -/
def view (t : Nat) : Nat → List Leaf → List Leaf
  | _, [] => []
  | i, .own .. :: ls => .al ⟨t, i⟩ :: view t (i + 1) ls
  | i, l :: ls => l :: view t (i + 1) ls

def ltake : Nat → List Leaf → List Leaf
  | 0, _ => []
  | _, [] => []
  | n + 1, l :: ls => l :: ltake n ls
def ldrop : Nat → List Leaf → List Leaf
  | 0, ls => ls
  | _, [] => []
  | n + 1, _ :: ls => ldrop n ls

def explode : (t : Ty) → t.den → List Leaf
  | .pair a b, x => explode a x.1 ++ explode b x.2
  | .int k, x => [.val (.int k) x]
  | .bool, x => [.val .bool x]
  | .str, x => [.val .str x]
  | .list e, x => [.val (.list e) x]

def Leaf.as (t : Ty) : Leaf → Option t.den
  | .val t' x => if h : t' = t then some (h ▸ x) else none
  | .nils => match t with
    | .list e => some ([] : List e.den)
    | _ => none
  | _ => none

/-- A value out of its leaves (none of them owned). -/
def implode : (t : Ty) → List Leaf → Option t.den
  | .pair a b, ls => match implode a (ltake a.sz ls), implode b (ldrop a.sz ls) with
    | some x, some y => some (x, y)
    | _, _ => none
  | .int k, ls => (lget ls 0).as (.int k)
  | .bool, ls => (lget ls 0).as .bool
  | .str, ls => (lget ls 0).as .str
  | .list e, ls => (lget ls 0).as (.list e)

def Leaf.isOwn : Leaf → Bool
  | .own .. => true
  | _ => false
def Leaf.isAl (p : Pl) : Leaf → Bool
  | .al q => q = p
  | _ => false
def Leaf.known : Leaf → Bool
  | .und => false
  | .no => false
  | _ => true
def Slot.owns : Slot → Bool
  | .box _ => true
  | s => s.leaves.any Leaf.isOwn

def mapL (f : Leaf → Leaf) : St → St
  | [] => []
  | s :: σ => s.with (s.leaves.map f) :: mapL f σ

/-- What leads to slot `d` is gone. -/
def killL (d : Nat) : Leaf → Leaf
  | .al p => if p.t = d then .und else .al p
  | .ptr b o => if b = d then .und else .ptr b o
  | .ept p e i o => if p.t = d then .und else .ept p e i o
  | .clo f bs => if bs.contains d then .und else .clo f bs
  | l => l
def kill (σ : St) (d : Nat) : St := if (gs σ d).owns then mapL (killL d) σ else σ

/-- What leads to place `p` is gone. -/
def killP (p : Pl) : Leaf → Leaf
  | .al q => if q = p then .und else .al q
  | .ept q e i o => if q = p then .und else .ept q e i o
  | l => l
/-- What leads to place `p` leads to place `q`. -/
def mvP (p q : Pl) : Leaf → Leaf
  | .al r => if r = p then .al q else .al r
  | .ept r e i o => if r = p then .ept q e i o else .ept r e i o
  | l => l
/-- What is read by way of place `p` is a plain list; nothing writes there any more. -/
def frP (p : Pl) (e : Ty) (xs : List e.den) : Leaf → Leaf
  | .al r => if r = p then .val (.list e) xs else .al r
  | .ept r e' i o => if r = p then .und else .ept r e' i o
  | l => l

/-- The leaf at place `q` takes over what it is read by. -/
def xfer (σ : St) (q : Pl) : St :=
  match gl σ q with
  | .al p => match gl σ p with
    | .own te e xs => sl (sl (mapL (mvP p q) σ) p (.al q)) q (.own te e xs)
    | _ => σ
  | _ => σ
def xfers (σ : St) (d : Nat) : Nat → Nat → St
  | _, 0 => σ
  | i, n + 1 => xfers (xfer σ ⟨d, i⟩) d (i + 1) n

/-- What is owned at place `p` becomes a plain list. -/
def frz (σ : St) (p : Pl) : St :=
  match gl σ p with
  | .own _ e xs => mapL (frP p e xs) (sl σ p (.val (.list e) xs))
  | _ => σ
/-- Each leaf that is read by way of a place becomes a plain list. -/
def freezeL : List Leaf → St → St × List Leaf
  | [], σ => (σ, [])
  | .al p :: ls, σ =>
    let σ1 := frz σ p
    let r := freezeL ls σ1
    (r.1, (match gl σ1 p with | .val t x => .val t x | _ => .und) :: r.2)
  | l :: ls, σ => let r := freezeL ls σ; (r.1, l :: r.2)

/-- A slot is written anew; nothing is taken over. -/
def wr (σ : St) (d : Option Nat) (s : Slot) : St :=
  match d with
  | none => σ
  | some d => ss (kill σ d) d (s.with (s.leaves.map (killL d)))

/-- A slot is written anew; what its leaves read by way of places is taken over. -/
def wrT (σ : St) (d : Option Nat) (s : Slot) : St :=
  match d with
  | none => σ
  | some d => xfers (wr σ (some d) s) d 0 s.leaves.length

/-- A leaf is written anew. -/
def wrP (σ : St) (p : Pl) (l : Leaf) : St :=
  sl (match gl σ p with | .own .. => mapL (killP p) σ | _ => σ) p (killP p l)

/-- A leaf that leads where nothing is owned any more is gone. -/
def san (σ : St) : Leaf → Leaf
  | .al q => if (gl σ q).isOwn then .al q else .und
  | .ept .. => .und
  | l => l

/-- Leaves are stored from leaf `i` of slot `d` on, one by one. -/
def stL (d : Nat) : Nat → Nat → List Leaf → St → St
  | 0, _, _, σ => σ
  | _ + 1, _, [], σ => σ
  | n + 1, i, l :: ls, σ => stL d n (i + 1) (ls.map (killP ⟨d, i⟩)) (xfer (wrP σ ⟨d, i⟩ (san σ l)) ⟨d, i⟩)

def leafOf : Value → Leaf
  | .int k n => .val (.int k) n
  | .bool b => .val .bool b
  | .string s => .val .str s.data.toList
  | .slice none 0 0 => .nils
  | .agg _ => .und
  | .tuple _ => .und
  | v => .cst v
def constSlot : Value → Bool × List Leaf
  | .agg cs => (true, cs.toList.map leafOf)
  | v => (false, [leafOf v])

/-- An operand's value. -/
def rd (σ : St) : Operand → Bool × List Leaf
  | .tmp t => match gs σ t with
    | .cs a ls => (a, view t 0 ls)
    | .box _ => (false, [.ptr t 0])
    | .tup _ _ => (false, [.und])
  | .const v => constSlot v
  | .func f => (false, [.clo f []])
  | .global _ => (false, [.und])
def rd1 (σ : St) (x : Operand) : Leaf := match rd σ x with
  | (false, ls) => lget ls 0
  | _ => .und

/-- A row's elements. -/
def rowOf (σ : St) (e : Ty) : Leaf → Option (List e.den)
  | .val (.list e') xs => if h : e' = e then some (h ▸ xs) else none
  | .nils => some []
  | .al p => match gl σ p with
    | .own _ e' xs => if h : e' = e then some (h ▸ xs) else none
    | _ => none
  | _ => none

def at_ {e : Ty} (xs : List e.den) (i : Int) : e.den := xs.getD i.toNat e.zero

def isize : Nat → Int := fun n => (n : Int)

/-- A comparison or an operation on two numbers. -/
def binInt (op : BinOp) (k : IntKind) (x y : Int) : Option Leaf :=
  match op with
  | .add => some (.val (.int k) (k.wrap (x + y)))
  | .sub => some (.val (.int k) (k.wrap (x - y)))
  | .mul => some (.val (.int k) (k.wrap (x * y)))
  | .eql => some (.val .bool (x == y))
  | .neq => some (.val .bool (x != y))
  | .lss => some (.val .bool (decide (x < y)))
  | .leq => some (.val .bool (decide (x ≤ y)))
  | .gtr => some (.val .bool (decide (x > y)))
  | .geq => some (.val .bool (decide (x ≥ y)))
  | _ => none
def strLess : List UInt8 → List UInt8 → Bool := Op.bytesLess
def binStr (op : BinOp) (x y : List UInt8) : Option Leaf :=
  match op with
  | .eql => some (.val .bool (x == y))
  | .neq => some (.val .bool (!(x == y)))
  | .lss => some (.val .bool (strLess x y))
  | .leq => some (.val .bool (strLess x y || x == y))
  | .gtr => some (.val .bool (!(strLess x y || x == y)))
  | .geq => some (.val .bool (!strLess x y))
  | _ => none
def Ty.leaves : Ty → List Ty
  | .pair a b => a.leaves ++ b.leaves
  | t => [t]
/-- Equality of leaves, one by one. -/
def eqLeaves : List Ty → List Leaf → List Leaf → Option Bool
  | [], [], [] => some true
  | .int k :: ts, .val (.int k1) x :: ls, .val (.int k2) y :: ms => if k1 = k ∧ k2 = k then (eqLeaves ts ls ms).map fun b => ((x : Int) == y) && b else none
  | .bool :: ts, .val .bool x :: ls, .val .bool y :: ms => (eqLeaves ts ls ms).map fun b => ((x : Bool) == y) && b
  | .str :: ts, .val .str x :: ls, .val .str y :: ms => (eqLeaves ts ls ms).map fun b => ((x : List UInt8) == y) && b
  | _, _, _ => none
def isTy (T : TypeId → Option TI) (t : TypeId) (ty : Ty) : Bool := match T t with
  | some ti => decide (ti.ty = ty) && !ti.agg
  | none => false
def flatF (T : TypeId → Option TI) : Nat → List (Nat × TypeId) → List Ty → Bool
  | _, [], [] => true
  | i, (o, ft) :: fs, t :: ts => o == i && isTy T ft t && flatF T (i + 1) fs ts
  | _, _, _ => false
/-- The leaves' kinds of a struct type whose values can be compared, each field being one leaf. -/
def flat (T : TypeId → Option TI) (t : TypeId) : Option (List Ty) := match T t with
  | some ti => if ti.cmp = true ∧ ti.agg = true ∧ flatF T 0 ti.fs ti.ty.leaves = true then some ti.ty.leaves else none
  | none => none

/-! ### Functions -/

/-- Kinds of leaves: a plain value, or an owned row. -/
inductive LK where
  | fr (t : Ty)
  | ow (te : TypeId) (e : Ty)
@[reducible] def LK.den : LK → Type
  | .fr t => t.den
  | .ow _ e => List e.den

@[reducible] def HL : List LK → Type
  | [] => Unit
  | k :: ks => k.den × HL ks
@[reducible] def BL : List (List LK) → Type
  | [] => Unit
  | b :: bs => HL b × BL bs

/-- Kinds of parameters: a value; an owned row; a pointer to box number `b`; a function that holds boxes. -/
inductive PK where
  | v (agg : Bool) (t : Ty)
  | o (te : TypeId) (e : Ty)
  | p (b : Nat)
  | f (g : FuncId) (bs : List Nat)
def PK.lk : PK → List LK
  | .v _ t => [.fr t]
  | .o te e => [.ow te e]
  | _ => []

/-- A function's kinds: its parameters, the boxes that it is handed, its results (a struct or not, and its leaves). -/
structure Sig where
  ps : List PK
  bs : List (List LK)
  rs : List (Bool × List LK)

def Sig.ins (s : Sig) : List LK := s.ps.flatMap PK.lk
abbrev Sig.Out (s : Sig) : Type := BL (s.rs.map (·.2)) × BL s.bs
abbrev Sig.Fn (s : Sig) : Type := HL s.ins → BL s.bs → Option s.Out

structure Fun where
  s : Sig
  F : s.Fn
abbrev Env := List (FuncId × Fun)

def Ty.plain : Ty → Bool
  | .list _ => false
  | .pair a b => a.plain && b.plain
  | _ => true
def LK.plain : LK → Bool
  | .fr t => t.plain
  | .ow .. => false
/-- Nothing that the function hands back can lead to what it was handed. -/
def Sig.scalar (s : Sig) : Bool := s.rs.all (fun r => r.2.all LK.plain) && s.bs.isEmpty && s.ps.all fun p => match p with | .v .. => true | _ => false

abbrev Arg := Bool × List Leaf

def fitsF : List PK → List Arg → Bool
  | [], [] => true
  | .f g _ :: ps, (_, ls) :: as => (match lget ls 0 with | .clo h _ => h == g | _ => false) && fitsF ps as
  | _ :: ps, _ :: as => fitsF ps as
  | _, _ => false
def findF (f : FuncId) (as : List Arg) : Env → Option Fun
  | [] => none
  | (g, F) :: env => if g = f ∧ fitsF F.s.ps as = true then some F else findF f as env

/-- The slots of the boxes that a call is handed, by their numbers. -/
def bset (b t : Nat) (m : List (Nat × Nat)) : Option (List (Nat × Nat)) :=
  match m.lookup b with
  | some t' => if t' = t then some m else none
  | none => if m.any (fun x => x.2 == t) then none else some (m ++ [(b, t)])
def bsetAll : List Nat → List Nat → List (Nat × Nat) → Option (List (Nat × Nat))
  | [], [], m => some m
  | b :: bs, t :: ts, m => match bset b t m with
    | some m => bsetAll bs ts m
    | none => none
  | _, _, _ => none

def takeOwn (σ : St) (te : TypeId) (e : Ty) : Leaf → Option (St × List e.den)
  | .al p => match gl σ p with
    | .own te' e' xs => if te' = te then (if h : e' = e then some (sl (mapL (killP p) σ) p .und, h ▸ xs) else none) else none
    | _ => none
  | .nils => some (σ, [])
  | _ => none

/-- The arguments of a call. -/
def gather (borrow : Bool) : (ps : List PK) → List Arg → St → List (Nat × Nat) → Option (St × HL (ps.flatMap PK.lk) × List (Nat × Nat))
  | [], [], σ, m => some (σ, (), m)
  | .v a t :: ps, (a', ls) :: as, σ, m =>
    if a' = a ∧ ls.length = t.sz then
      let r := freezeL ls σ
      match implode t r.2 with
      | some x => match gather borrow ps as (match borrow with | true => σ | false => r.1) m with
        | some (σ2, xs, m2) => some (σ2, (x, xs), m2)
        | none => none
      | none => none
    else none
  | .o te e :: ps, (a', ls) :: as, σ, m =>
    if a' = false then match takeOwn σ te e (lget ls 0) with
    | some (σ1, x) => match gather borrow ps as σ1 m with
      | some (σ2, xs, m2) => some (σ2, (x, xs), m2)
      | none => none
    | none => none
    else none
  | .p b :: ps, (a', ls) :: as, σ, m =>
    if a' = false then match lget ls 0 with
    | .ptr t 0 => match bset b t m with
      | some m1 => gather borrow ps as σ m1
      | none => none
    | _ => none
    else none
  | .f g bs :: ps, (a', ls) :: as, σ, m =>
    if a' = false then match lget ls 0 with
    | .clo h ts => if h = g then (match bsetAll bs ts m with
      | some m1 => gather borrow ps as σ m1
      | none => none) else none
    | _ => none
    else none
  | _, _, _, _ => none

/-- What boxes hold, handed over: leaf by leaf. -/
def takeBox (t : Nat) : (ks : List LK) → Nat → St → Option (St × HL ks)
  | [], _, σ => some (σ, ())
  | .fr k :: ks, i, σ =>
    let r := freezeL (ltake 1 (view t i (ltake 1 (ldrop i (gs σ t).leaves)))) σ
    match (lget r.2 0).as k with
    | some x => match takeBox t ks (i + 1) r.1 with
      | some (σ2, xs) => some (σ2, x, xs)
      | none => none
    | none => none
  | .ow te e :: ks, i, σ =>
    match takeOwn σ te e (lget (view t i (ltake 1 (ldrop i (gs σ t).leaves))) 0) with
    | some (σ1, x) => match takeBox t ks (i + 1) σ1 with
      | some (σ2, xs) => some (σ2, x, xs)
      | none => none
    | none => none
def takeBoxes (m : List (Nat × Nat)) : (bs : List (List LK)) → Nat → St → Option (St × BL bs)
  | [], _, σ => some (σ, ())
  | b :: bs, i, σ => match m.lookup i with
    | some t => if (gs σ t).leaves.length = b.length then (match takeBox t b 0 σ with
      | some (σ1, x) => match takeBoxes m bs (i + 1) σ1 with
        | some (σ2, xs) => some (σ2, x, xs)
        | none => none
      | none => none) else none
    | none => none

def outL : (ks : List LK) → HL ks → List Leaf
  | [], _ => []
  | .fr t :: ks, x => explode t x.1 ++ outL ks x.2
  | .ow te e :: ks, x => .own te e x.1 :: outL ks x.2
def putBoxes (m : List (Nat × Nat)) : (bs : List (List LK)) → Nat → BL bs → St → St
  | [], _, _, σ => σ
  | b :: bs, i, x, σ => match m.lookup i with
    | some t => putBoxes m bs (i + 1) x.2 (ss σ t (.box (outL b x.1)))
    | none => σ
def outR : (rs : List (Bool × List LK)) → BL (rs.map (·.2)) → List (Bool × Nat) × List Leaf
  | [], _ => ([], [])
  | (a, ks) :: rs, x => let ls := outL ks x.1; let r := outR rs x.2; ((a, ls.length) :: r.1, ls ++ r.2)
def outSlot (rs : List (Bool × List LK)) (x : BL (rs.map (·.2))) : Slot :=
  match outR rs x with
  | ([(a, _)], ls) => .cs a ls
  | (ks, ls) => .tup ks ls

section
variable {A : Type}

def bcond (b : Bool) (x y : A) : A := match b with
  | true => x
  | false => y

def callK (env : Env) (σ : St) (d : Option Nat) (f : FuncId) (as : List Arg) (k : St → Option A) : Option A :=
  match findF f as env with
  | none => none
  | some F => match gather F.s.scalar F.s.ps as σ [] with
    | none => none
    | some (σ1, xs, m) => match takeBoxes m F.s.bs 0 σ1 with
      | none => none
      | some (σ2, bs) => (F.F xs bs).bind fun r => k (wr (putBoxes m F.s.bs 0 r.2 σ2) d (outSlot F.s.rs r.1))

/-- The leaves of a value of a type, all zero. -/
def zeroL (t : Ty) : List Leaf := (explode t t.zero).map fun l => match l with
  | .val (.list _) _ => .nils
  | l => l

def setAt (ls : List Leaf) (o : Nat) : List Leaf → List Leaf
  | [] => ls
  | x :: xs => setAt (lset ls o x) (o + 1) xs

/-- An element with some of its leaves replaced. -/
def upd (t : Ty) (x : t.den) (o : Nat) (ls : List Leaf) : Option t.den := implode t (setAt (explode t x) o ls)

def fillS (T : TypeId → Option TI) (fs : List (Nat × TypeId)) (σ : St) : List (Nat × Operand) → List Leaf → Option (List Leaf)
  | [], ls => some ls
  | (i, x) :: ps, ls => match fs[i]? with
    | some (o, ft) => match T ft with
      | some fi => if (rd σ x).1 = fi.agg ∧ (rd σ x).2.length = fi.ty.sz ∧ (rd σ x).2.all Leaf.known = true ∧ o + fi.ty.sz ≤ ls.length then fillS T fs σ ps (setAt ls o (rd σ x).2) else none
      | none => none
    | none => none

def fillE (e : Ty) : List (Nat × List Leaf) → List e.den → Option (List e.den)
  | [], xs => some xs
  | (i, ls) :: ps, xs => if i < xs.length ∧ ls.length = e.sz then match implode e ls with
    | some x => fillE e ps (xs.set i x)
    | none => none
    else none

/-- The parts of a new row, each a plain value. -/
def frParts (ag : Bool) : List (Nat × Operand) → St → St × List (Nat × List Leaf)
  | [], σ => (σ, [])
  | (i, x) :: ps, σ =>
    let r := freezeL (rd σ x).2 σ
    let r2 := frParts ag ps r.1
    (r2.1, (i, if (rd σ x).1 = ag ∧ (rd σ x).2.all Leaf.known = true then r.2 else []) :: r2.2)

def field? (T : TypeId → Option TI) (t : TypeId) (i : Nat) : Option (Nat × TI) :=
  match T t with
  | some ti => match ti.fs[i]? with
    | some (o, ft) => match T ft with
      | some fi => some (o, fi)
      | none => none
    | none => none
  | none => none

/-- Field `i` of a plain tuple. -/
def subTy : (t : Ty) → t.den → Nat → Ty → Option Leaf
  | .pair a b, x, o, want => if h : Ty.pair a b = want then (if o = 0 then some (.vpt want (h ▸ x)) else none) else if o < a.sz then subTy a x.1 o want else subTy b x.2 (o - a.sz) want
  | .int k, x, o, want => if h : Ty.int k = want then (if o = 0 then some (.vpt want (h ▸ x)) else none) else none
  | .bool, x, o, want => if h : Ty.bool = want then (if o = 0 then some (.vpt want (h ▸ x)) else none) else none
  | .str, x, o, want => if h : Ty.str = want then (if o = 0 then some (.vpt want (h ▸ x)) else none) else none
  | .list e, x, o, want => if h : Ty.list e = want then (if o = 0 then some (.vpt want (h ▸ x)) else none) else none

/-- What an operand holds, a call's results among it. -/
def rdS (σ : St) (x : Operand) : Slot := match x with
  | .tmp t => match gs σ t with
    | .tup ks ls => .tup ks (view t 0 ls)
    | _ => .cs (rd σ x).1 (rd σ x).2
  | _ => .cs (rd σ x).1 (rd σ x).2

def kindOf : Leaf → Option Ty
  | .val t _ => some t
  | _ => none

def natAt (σ : St) : Option Operand → Nat → Option Int
  | none, n => some n
  | some x, _ => match rd1 σ x with
    | .val (.int _) i => some i
    | _ => none

/-- One operation. -/
def opK (T : TypeId → Option TI) (env : Env) (o : Oper) (σ : St) (k : St → Option A) : Option A :=
  let d := o.dst
  match o.op with
  | .move x => k (wr σ d (rdS σ x))
  | .assign x => let r := rd σ x; k (wrT σ d (.cs r.1 r.2))
  | .pick c a b => match rd1 σ c with
    | .val .bool v => match v, rd1 σ a, rd1 σ b with
      | true, l, _ => k (wr σ d (.cs false [l]))
      | false, _, l => k (wr σ d (.cs false [l]))
    | _ => none
  | .alloc t => match T t with
    | some ti => k (wr σ d (.box (zeroL ti.ty)))
    | none => none
  | .box t x => match T t with
    | some ti => let r := rd σ x; if r.1 = ti.agg ∧ r.2.length = ti.ty.sz ∧ r.2.all Leaf.known = true then k (wrT σ d (.box r.2)) else none
    | none => none
  | .build t parts => match T t with
    | some ti => if ti.agg = false then none else match fillS T ti.fs σ parts.toList (zeroL ti.ty) with
      | some ls => k (wrT σ d (.cs true ls))
      | none => none
    | none => none
  | .buildSlice t len parts => match T t with
    | some ti => match T ti.el with
      | some ei =>
        let r := frParts ei.agg parts.toList σ
        if ti.agg = true ∨ ti.ty ≠ .list ei.ty ∨ 16777216 < len * ei.ty.sz then none else match fillE ei.ty r.2 (List.replicate len ei.ty.zero) with
        | some xs => k (wr r.1 d (.cs false [.own ti.el ei.ty xs]))
        | none => none
      | none => none
    | none => none
  | .load t x => match T t with
    | some ti => match rd1 σ x with
      | .ptr b o => if o + ti.ty.sz ≤ (gs σ b).leaves.length then k (wr σ d (.cs ti.agg (view b o (ltake ti.ty.sz (ldrop o (gs σ b).leaves))))) else none
      | .ept p e i o => match rowOf σ e (.al p) with
        | some xs => if o + ti.ty.sz ≤ e.sz then k (wr σ d (.cs ti.agg (ltake ti.ty.sz (ldrop o (explode e (at_ xs i)))))) else none
        | none => none
      | .vpt t' x => if t' = ti.ty then k (wr σ d (.cs ti.agg (explode t' x))) else none
      | _ => none
    | none => none
  | .store t x y => if d.isSome then none else match T t with
    | some ti => match rd1 σ x with
      | .ptr b o => if (rd σ y).1 = ti.agg ∧ (rd σ y).2.length = ti.ty.sz ∧ (rd σ y).2.all Leaf.known = true ∧ o + ti.ty.sz ≤ (gs σ b).leaves.length then k (stL b (rd σ y).2.length o (rd σ y).2 σ) else none
      | .ept p e i o => if (rd σ y).1 = ti.agg ∧ (rd σ y).2.length = ti.ty.sz ∧ (rd σ y).2.all Leaf.known = true ∧ o + ti.ty.sz ≤ e.sz then
        let r := freezeL (rd σ y).2 σ
        match gl r.1 p with
        | .own te e' xs => if h : e' = e then (match upd e (at_ (h ▸ xs) i) o r.2 with
          | some v => k (sl r.1 p (.own te e ((h ▸ xs : List e.den).set i.toNat v)))
          | none => none) else none
        | _ => none
        else none
      | _ => none
    | none => none
  | .nilCheck x => match rd1 σ x with
    | .ptr b o => k (wr σ d (.cs false [.ptr b o]))
    | .ept p e i o => k (wr σ d (.cs false [.ept p e i o]))
    | .vpt t x => k (wr σ d (.cs false [.vpt t x]))
    | _ => none
  | .binOp op t x y _ => match rd σ x, rd σ y with
    | (false, [.val (.int kk) a]), (false, [.val (.int kk') b]) =>
      if kk = kk' then match op with
        | .quo => if (b : Int) = 0 then none else k (wr σ d (.cs false [.val (.int kk) (kk.wrap (Int.tdiv a b))]))
        | .rem => if (b : Int) = 0 then none else k (wr σ d (.cs false [.val (.int kk) (Int.tmod a b)]))
        | _ => match binInt op kk a b with
          | some l => k (wr σ d (.cs false [l]))
          | none => none
      else none
    | (false, [.val .str a]), (false, [.val .str b]) => match op with
      | .add => if List.length a + List.length b ≤ 140737488351232 then k (wr σ d (.cs false [.val .str (List.append a b)])) else none
      | _ => match binStr op a b with
        | some l => k (wr σ d (.cs false [l]))
        | none => none
    | (false, [.val .bool a]), (false, [.val .bool b]) => if isTy T t .bool = false then none else match op with
      | .eql => k (wr σ d (.cs false [.val .bool ((a : Bool) == b)]))
      | .neq => k (wr σ d (.cs false [.val .bool ((a : Bool) != b)]))
      | _ => none
    | (true, ls), (true, ms) => match flat T t with
      | none => none
      | some ts => match op, eqLeaves ts ls ms with
        | .eql, some b => k (wr σ d (.cs false [.val .bool b]))
        | .neq, some b => k (wr σ d (.cs false [.val .bool (!b)]))
        | _, _ => none
    | _, _ => none
  | .unOp op _ x => match op, rd1 σ x with
    | .not, .val .bool b => k (wr σ d (.cs false [.val .bool (!(b : Bool))]))
    | .neg, .val (.int kk) a => k (wr σ d (.cs false [.val (.int kk) (kk.wrap (0 - (a : Int)))]))
    | _, _ => none
  | .convert src dst x => match T src, T dst with
    | some si, some ti => match si.ty, ti.ty, rd1 σ x with
      | .int _, .int kk, .val (.int _) a => if ti.agg = true ∨ si.agg = true then none else k (wr σ d (.cs false [.val (.int kk) (kk.wrap a)]))
      | .str, .str, .val .str a => if ti.agg = true ∨ si.agg = true then none else k (wr σ d (.cs false [.val .str a]))
      | _, _, _ => none
    | _, _ => none
  | .slice t x lo hi none => match T t with
    | none => none
    | some ti => if ti.agg then none else match ti.ty with
      | .str => match rd1 σ x with
        | .val .str a => match natAt σ lo 0, natAt σ hi (List.length a) with
          | some l, some h => if 0 ≤ h ∧ h ≤ (List.length a : Int) ∧ 0 ≤ l ∧ l ≤ h then k (wr σ d (.cs false [.val .str ((List.take h.toNat a).drop l.toNat)])) else none
          | _, _ => none
        | _ => none
      | .list e =>
        let r := freezeL [rd1 σ x] σ
        if (T ti.el).isNone then none else match lget r.2 0 with
        | .val (.list e') xs => if h0 : e' = e then (match natAt σ lo 0, natAt σ hi (List.length xs) with
          | some l, some h => if 0 ≤ h ∧ h ≤ (List.length xs : Int) ∧ 0 ≤ l ∧ l ≤ h then k (wr r.1 d (.cs false [.val (.list e) ((List.take h.toNat (h0 ▸ xs : List e.den)).drop l.toNat)])) else none
          | _, _ => none) else none
        | _ => none
      | _ => none
  | .fieldAddr t x i => match field? T t i with
    | some (f, fi) => match rd1 σ x with
      | .ptr b o => k (wr σ d (.cs false [.ptr b (o + f)]))
      | .ept p e i o => k (wr σ d (.cs false [.ept p e i (o + f)]))
      | .vpt t' x => match subTy t' x f fi.ty with
        | some l => k (wr σ d (.cs false [l]))
        | none => none
      | _ => none
    | none => none
  | .field t x i => match field? T t i with
    | some (f, fi) => match x with
      | .tmp s => match gs σ s with
        | .cs true ls => if f + fi.ty.sz ≤ ls.length then k (wr σ d (.cs fi.agg (view s f (ltake fi.ty.sz (ldrop f ls))))) else none
        | _ => none
      | _ => none
    | none => none
  | .indexAddr t x ix => match T t with
    | some ti => if ti.agg then none else match ti.ty with
      | .list et => match T ti.el with
        | some ei => match rd1 σ ix with
          | .val (.int _) i => match rd1 σ x with
            | .val (.list e) xs => if e = et then (if 0 ≤ (i : Int) ∧ (i : Int) < (List.length xs : Int) then k (wr σ d (.cs false [.vpt e (at_ xs i)])) else none) else none
            | .al p => match gl σ p with
              | .own _ e xs => if e = et then (if 0 ≤ (i : Int) ∧ (i : Int) < (List.length xs : Int) then k (wr σ d (.cs false [.ept p e i 0])) else none) else none
              | _ => none
            | _ => none
          | _ => none
        | none => none
      | _ => none
    | none => none
  | .index t x ix => match T t with
    | none => none
    | some ti => if ti.agg then none else match ti.ty, rd1 σ x, rd1 σ ix with
    | .str, .val .str a, .val (.int _) i => if 0 ≤ (i : Int) ∧ (i : Int) < (List.length a : Int) then k (wr σ d (.cs false [.val (.int .u8) ((List.getD a (Int.toNat i) 0).toNat : Int)])) else none
    | _, _, _ => none
  | .makeFunc (.func f) first captured =>
    let bs := captured.toList.map fun x => rd1 σ x
    if first.toList.isEmpty && bs.all (fun l => match l with | .ptr _ 0 => true | _ => false) then
      k (wr σ d (.cs false [.clo f (bs.map fun l => match l with | .ptr b _ => b | _ => 0)]))
    else none
  | .makeSlice t l c => match T t with
    | some ti => if ti.agg then none else match ti.ty with
      | .list _ => match T ti.el with
        | some ei => match rd1 σ l, rd1 σ c with
          | .val (.int _) n, .val (.int _) m => if 0 ≤ (n : Int) ∧ (n : Int) = m ∧ (n : Int) * ei.bytes ≤ 140737488355328 ∧ (n : Int) ≤ 140737488355328 then k (wr σ d (.cs false [.own ti.el ei.ty (List.replicate (Int.toNat n) ei.ty.zero)])) else none
          | _, _ => none
        | none => none
      | _ => none
    | none => none
  | .extract x i => match x with
    | .tmp s => match gs σ s with
      | .tup ks ls => match ks[i]? with
        | some (a, n) =>
          let off := ((ks.take i).map (·.2)).sum
          k (wr σ d (.cs a (view s off (ltake n (ldrop off ls)))))
        | none => none
      | _ => none
    | _ => none
  | .call c => match c.callee with
    | .builtin .len => match c.args.toList, c.argTypes.toList with
      | [x], [t] => match T t with
        | none => none
        | some ti => if ti.agg then none else match ti.ty with
        | .str => match rd1 σ x with
          | .val .str a => k (wr σ d (.cs false [.val (.int .i64) (List.length a : Int)]))
          | _ => none
        | .list _ => match rd1 σ x with
          | .val (.list _) xs => k (wr σ d (.cs false [.val (.int .i64) (List.length xs : Int)]))
          | .nils => k (wr σ d (.cs false [.val (.int .i64) 0]))
          | .al p => match gl σ p with
            | .own _ _ xs => k (wr σ d (.cs false [.val (.int .i64) (xs.length : Int)]))
            | _ => none
          | _ => none
        | _ => none
      | _, _ => none
    | .builtin .append => match c.args.toList, c.argTypes.toList with
      | [x, y], [t, t'] => match T t with
        | some ti => match T ti.el with
          | some ei => if t' = t ∧ ti.agg = false ∧ ti.ty = .list ei.ty ∧ 0 < ei.bytes then (match rowOf σ ei.ty (rd1 σ y) with
            | some ys => match rd1 σ x with
              | .al p => if (rd1 σ y).isAl p then none else match gl σ p with
                | .own te e xs => if te = ti.el then (if h : e = ei.ty then
                    (if (List.length (h ▸ xs : List ei.ty.den) + ys.length) * ei.bytes ≤ 140737488355328 then k (wr (sl (mapL (killP p) σ) p .und) d (.cs false [.own ti.el ei.ty ((h ▸ xs) ++ ys)])) else none) else none) else none
                | _ => none
              | .nils => if ys.length * ei.bytes ≤ 140737488355328 then k (wr σ d (.cs false [.own ti.el ei.ty ys])) else none
              | _ => none
            | none => none) else none
          | none => none
        | none => none
      | _, _ => none
    | .builtin .min => match c.args.toList.map (rd1 σ) with
      | [.val (.int kk) a, .val (.int _) b] => k (wr σ d (.cs false [.val (.int kk) (if (b : Int) < a then b else a)]))
      | _ => none
    | .builtin .max => match c.args.toList.map (rd1 σ) with
      | [.val (.int kk) a, .val (.int _) b] => k (wr σ d (.cs false [.val (.int kk) (if (b : Int) > a then b else a)]))
      | _ => none
    | .value x => match rd1 σ x with
      | .clo f bs => callK env σ d f (c.args.toList.map (rd σ) ++ bs.map fun b => (false, [.ptr b 0])) k
      | _ => none
    | _ => none
  | _ => none

/-- A number in a slot is now known. -/
def know (σ : St) (t : Nat) (b : Bool) : St := ss σ t (.cs false [.val .bool b])

def dstOf (ops : List Oper) (j : Nat) : Option Nat := match ops[j]? with
  | some o => o.dst
  | none => none

def regK (T : TypeId → Option TI) (env : Env) (ops : List Oper) : List Oper → St → (St → Option A) → Option A
  | [], σ, k => k σ
  | o :: rest, σ, k => match o.guard with
    | none => opK T env o σ fun σ1 => regK T env ops rest σ1 k
    | some (j, want) => match dstOf ops j with
      | none => none
      | some t => match gs σ t with
        | .cs false [.no] => regK T env ops rest (wr σ o.dst (.cs false [.no])) k
        | .cs false [.val .bool v] =>
          bcond (v == want) (opK T env o (know σ t want) fun σ1 => regK T env ops rest σ1 k)
            (regK T env ops rest (wr (know σ t (!want)) o.dst (.cs false [.no])) k)
        | _ => none

/-- Two ways lead to the same. -/
noncomputable def agree (x y : Option A) : Option A := open Classical in if x = y then x else none
theorem agree_self (x : Option A) : agree x x = x := by unfold agree; rw [if_pos rfl]
theorem agree_some {x y : Option A} {r : A} (h : agree x y = some r) : x = some r ∧ y = some r := by
  unfold agree at h
  split at h
  · rename_i e; exact ⟨h, e ▸ h⟩
  · cases h

/-- Orders in which operations may come up: one comes first, or one of several does. -/
inductive Ord where
  | nil
  | st (i : Nat) (t : Ord)
  | alt (i : Nat) (t : Ord) (u : Ord)

/-- Operations in these orders. -/
noncomputable def regO (T : TypeId → Option TI) (env : Env) (ops : List Oper) : Ord → St → (St → Option A) → Option A
  | .nil, σ, k => k σ
  | .st i t, σ, k => match ops[i]? with
    | some o => regK T env ops [o] σ fun σ1 => regO T env ops t σ1 k
    | none => none
  | .alt i t u, σ, k => match ops[i]? with
    | some o => agree (regK T env ops [o] σ fun σ1 => regO T env ops t σ1 k) (regO T env ops u σ k)
    | none => none

/-- What is kept of the slots at a loop's head: a slot, and those of its leaves that are owned rows there. -/
abbrev Keep := List (Nat × List (Nat × TypeId × Ty))

def dropL (keep : Keep) : Leaf → Leaf
  | .al p => if (keep.lookup p.t).isSome then .al p else .und
  | .ptr b o => if (keep.lookup b).isSome then .ptr b o else .und
  | .ept .. => .und
  | .vpt .. => .und
  | .clo f bs => if bs.all (fun b => (keep.lookup b).isSome) then .clo f bs else .und
  | l => l
def coer (os : List (Nat × TypeId × Ty)) : Nat → List Leaf → List Leaf
  | _, [] => []
  | i, .nils :: ls => (match os.lookup i with | some e => .own e.1 e.2 [] | none => .nils) :: coer os (i + 1) ls
  | i, l :: ls => l :: coer os (i + 1) ls
def scrubS (keep : Keep) : Nat → St → St
  | _, [] => []
  | i, s :: σ => (match keep.lookup i with
    | some os => s.with (coer os 0 (s.leaves.map (dropL keep)))
    | none => nones) :: scrubS keep (i + 1) σ
def scrub (keep : Keep) (σ : St) : St := scrubS keep 0 σ

def loopK (body : St → (St → Option A) → Option A) (keep : Keep) : Nat → St → Option A
  | 0, _ => none
  | n + 1, σ => body σ fun σ1 => loopK body keep n (scrub keep σ1)

def nloops : Code → Nat
  | .seq a b => nloops a + nloops b
  | .cond _ a b => nloops a + nloops b
  | .block _ b => nloops b
  | .loop b => nloops b + 1
  | _ => 0

noncomputable def exec (T : TypeId → Option TI) (env : Env) (os : List (Nat × Ord)) (n : Nat) : Code → List Keep → St → (St → Option A) → (Nat → St → Option A) → (St → Option A) → Option A
  | .skip, _, σ, kn, _, _ => kn σ
  | .region id ops draw, _, σ, kn, _, _ => match draw with
    | false => regK T env ops.toList ops.toList σ kn
    | true => match os.lookup id with
      | some t => regO T env ops.toList t σ kn
      | none => none
  | .seq a b, hs, σ, kn, kx, kr => exec T env os n a hs σ (fun σ1 => exec T env os n b (hs.drop (nloops a)) σ1 kn kx kr) kx kr
  | .cond c a b, hs, σ, kn, kx, kr => match rd1 σ c with
    | .val .bool v => match c with
      | .tmp t => bcond v (exec T env os n a hs (know σ t true) kn kx kr) (exec T env os n b (hs.drop (nloops a)) (know σ t false) kn kx kr)
      | _ => bcond v (exec T env os n a hs σ kn kx kr) (exec T env os n b (hs.drop (nloops a)) σ kn kx kr)
    | _ => none
  | .block id b, hs, σ, kn, kx, kr => exec T env os n b hs σ kn (fun i σ1 => if i = id then kn σ1 else kx i σ1) kr
  | .loop b, hs, σ, _, kx, kr => loopK (fun σ k => exec T env os n b hs.tail σ k kx kr) (hs.headD []) n (scrub (hs.headD []) σ)
  | .exit id, _, σ, _, kx, _ => kx id σ
  | .ret, _, σ, _, _, kr => kr σ
  | _, _, _, _, _, _ => none

def Slot.isB : Slot → Bool
  | .box _ => true
  | _ => false
/-- What a function hands back. -/
def retL (e : List LK) : List Leaf → St → Option (St × HL e) :=
  match e with
  | [] => fun ls σ => match ls with
    | [] => some (σ, ())
    | _ => none
  | .fr t :: ks => fun ls σ =>
    let r := freezeL (ltake t.sz ls) σ
    match implode t r.2 with
    | some x => match retL ks (ldrop t.sz ls) r.1 with
      | some (σ2, xs) => some (σ2, x, xs)
      | none => none
    | none => none
  | .ow te e :: ks => fun ls σ =>
    match takeOwn σ te e (lget ls 0) with
    | some (σ1, x) => match retL ks (ldrop 1 ls) σ1 with
      | some (σ2, xs) => some (σ2, x, xs)
      | none => none
    | none => none
def retR (T : TypeId → Option TI) : (rs : List (Bool × List LK)) → List ResultVar → St → Option (St × BL (rs.map (·.2)))
  | [], [], σ => some (σ, ())
  | (a, ks) :: rs, .tmp t :: vs, σ =>
    let r := rd σ (.tmp t)
    if r.1 = a then match retL ks r.2 σ with
      | some (σ1, x) => match retR T rs vs σ1 with
        | some (σ2, xs) => some (σ2, x, xs)
        | none => none
      | none => none
    else none
  | (a, ks) :: rs, .cell t ty :: vs, σ => match T ty with
    | some ti => if (gs σ t).isB = true ∧ ti.agg = a ∧ (gs σ t).leaves.length = ti.ty.sz then match retL ks (view t 0 (gs σ t).leaves) σ with
      | some (σ1, x) => match retR T rs vs σ1 with
        | some (σ2, xs) => some (σ2, x, xs)
        | none => none
      | none => none
      else none
    | none => none
  | _, _, _ => none
def boxMap (n : Nat) : Nat → List (List LK) → List (Nat × Nat)
  | _, [] => []
  | i, _ :: bs => (i, n + i) :: boxMap n (i + 1) bs
def retK (T : TypeId → Option TI) (s : Sig) (fn : Func) (σ : St) : Option s.Out :=
  if (boxMap fn.ntmps 0 s.bs).all (fun q => (gs σ q.2).isB) = true then match retR T s.rs fn.results.toList σ with
  | some (σ1, x) => match takeBoxes (boxMap fn.ntmps 0 s.bs) s.bs 0 σ1 with
    | some (_, y) => some (x, y)
    | none => none
  | none => none
  else none

/-- The slots of a call as it begins. -/
def argS (n : Nat) : (ps : List PK) → HL (ps.flatMap PK.lk) → List Slot
  | [], _ => []
  | .v a t :: ps, x => .cs a (explode t x.1) :: argS n ps x.2
  | .o te e :: ps, x => .cs false [.own te e x.1] :: argS n ps x.2
  | .p b :: ps, x => .cs false [.ptr (n + b) 0] :: argS n ps x
  | .f g bs :: ps, x => .cs false [.clo g (bs.map (n + ·))] :: argS n ps x
def boxS : (bs : List (List LK)) → BL bs → List Slot
  | [], _ => []
  | b :: bs, x => .box (outL b x.1) :: boxS bs x.2
def start (s : Sig) (fn : Func) (x : HL s.ins) (y : BL s.bs) : St :=
  let l := argS fn.ntmps s.ps x
  l ++ List.replicate (fn.ntmps - l.length) nones ++ boxS s.bs y

/-- A function of the program, with values alone; `n`: a bound on the rounds of each loop. -/
noncomputable def run (T : TypeId → Option TI) (env : Env) (os : List (Nat × Ord)) (s : Sig) (fn : Func) (hs : List Keep) (n : Nat) (x : HL s.ins) (y : BL s.bs) : Option s.Out :=
  match fn.body with
  | some c => exec T env os n c hs (start s fn x y) (retK T s fn) (fun _ _ => none) (retK T s fn)
  | none => none

end
end Go.Ev
