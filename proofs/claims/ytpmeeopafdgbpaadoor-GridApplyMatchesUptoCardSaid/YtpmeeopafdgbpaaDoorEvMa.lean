/- The pure evaluator, and how it goes with the machine. -/
import Derived.Test.YtpmeeopafdgbpaaDoorGLay
namespace Go.Ev
set_option linter.unusedVariables false
noncomputable section
/-- What is told of a type: its plain kind, its fields (first cell, type), its elements' type, its size in bytes; `agg`: a struct. -/
structure TI where
  ty : Ty
  agg : Bool
  fs : List (Nat × TypeId)
  el : TypeId
  bytes : Nat
  cmp : Bool := false
  arr : Nat := 0
  hot : Bool := false
  hits : List Nat := []
/-- A place: leaf `i` of slot `t`. -/
structure Pl where
  t : Nat
  i : Nat
  deriving DecidableEq
inductive Leaf where
  | val (t : Ty) (x : t.den)
  | own (te : TypeId) (e : Ty) (xs : List e.den)
  | hol (te : TypeId) (e : Ty) (xs : List (List e.den)) (i : Int) (q : Option Pl)
  | al (p : Pl)
  | nils
  | ptr (b : Nat) (o : Nat)
  | ept (p : Pl) (e : Ty) (i : Int) (o : Nat)
  | vpt (t : Ty) (x : t.den)
  | clo (f : FuncId) (bs : List Nat)
  | cst (v : Value)
  | no
  | und
inductive Slot where
  | cs (agg : Bool) (ls : List Leaf)
  | box (ls : List Leaf)
  | tup (ks : List (Bool × Nat)) (ls : List Leaf)
  | itr (s : List UInt8) (i : Nat) (ls : List Leaf)
  | vb (ls : List Leaf)
def nones : Slot := .cs false [.und]
def Slot.leaves : Slot → List Leaf
  | .cs _ ls => ls
  | .box ls => ls
  | .tup _ ls => ls
  | .itr _ _ ls => ls
  | .vb ls => ls
def Slot.with (ls : List Leaf) : Slot → Slot
  | .cs a _ => .cs a ls
  | .box _ => .box ls
  | .tup k _ => .tup k ls
  | .itr s i _ => .itr s i ls
  | .vb _ => .vb ls
def gsL : List Slot → Nat → Slot
  | [], _ => nones
  | s :: _, 0 => s
  | _ :: σ, n + 1 => gsL σ n
/-- Slots, by their numbers: slot 0 at the root, odd ones to the left, even ones to the right. -/
inductive Tr where
  | e
  | n (l : Tr) (s : Slot) (r : Tr)
noncomputable def gsT (tr : Tr) : Nat → Slot :=
  Tr.rec (motive := fun _ => Nat → Slot) (fun _ => nones)
    (fun _ s _ il ir t => Nat.rec (motive := fun _ => Slot) s (fun m _ => Nat.rec (motive := fun _ => Slot) (il (m / 2)) (fun _ _ => ir (m / 2)) (m % 2)) t) tr
noncomputable def sing (s : Slot) (f : Nat) : Nat → Tr :=
  Nat.rec (motive := fun _ => Nat → Tr) (fun _ => .n .e s .e)
    (fun _ ih t => Nat.rec (motive := fun _ => Tr) (.n .e s .e) (fun m _ => Nat.rec (motive := fun _ => Tr) (.n (ih (m / 2)) nones .e) (fun _ _ => .n .e nones (ih (m / 2))) (m % 2)) t) f
noncomputable def ssT (tr : Tr) : Nat → Slot → Tr :=
  Tr.rec (motive := fun _ => Nat → Slot → Tr) (fun t s => sing s t t)
    (fun l x r il ir t s => Nat.rec (motive := fun _ => Tr) (.n l s r) (fun m _ => Nat.rec (motive := fun _ => Tr) (.n (il (m / 2) s) x r) (fun _ _ => .n l x (ir (m / 2) s)) (m % 2)) t) tr
noncomputable def mapT (f : Leaf → Leaf) (tr : Tr) : Tr :=
  Tr.rec (motive := fun _ => Tr) .e (fun _ s _ il ir => .n il (s.with (s.leaves.map f)) ir) tr
/-- Slots are put from slot `i` on. -/
noncomputable def putT (i : Nat) (l : List Slot) (tr : Tr) : Tr :=
  List.rec (motive := fun _ => Nat → Tr → Tr) (fun _ tr => tr) (fun s _ ih i tr => ih (i + 1) (ssT tr i s)) l i tr
structure St where
  len : Nat
  tr : Tr
def St.length (σ : St) : Nat := σ.len
noncomputable def gs (σ : St) (t : Nat) : Slot := St.rec (motive := fun _ => Slot) (fun n tr => cond (Nat.blt t n) (gsT tr t) nones) σ
noncomputable def ss (σ : St) (t : Nat) (s : Slot) : St := St.rec (motive := fun _ => St) (fun n tr => ⟨n, ssT tr t s⟩) σ
def lget : List Leaf → Nat → Leaf
  | [], _ => .und
  | l :: _, 0 => l
  | _ :: ls, n + 1 => lget ls n
def lset : List Leaf → Nat → Leaf → List Leaf
  | [], _, _ => []
  | _ :: ls, 0, x => x :: ls
  | l :: ls, n + 1, x => l :: lset ls n x
def gl (σ : St) (p : Pl) : Leaf := lget (gs σ p.t).leaves p.i
def sl (σ : St) (p : Pl) (l : Leaf) : St := let s := gs σ p.t; ss σ p.t (s.with (lset s.leaves p.i l))
/-- A leaf as it is read: what is owned is told by its place. -/
def view (t : Nat) : Nat → List Leaf → List Leaf
  | _, [] => []
  | i, .own .. :: ls => .al ⟨t, i⟩ :: view t (i + 1) ls
  | i, .hol .. :: ls => .al ⟨t, i⟩ :: view t (i + 1) ls
  | i, l :: ls => l :: view t (i + 1) ls
def ltake : Nat → List Leaf → List Leaf
  | 0, _ => []
  | _, [] => []
  | n + 1, l :: ls => l :: ltake n ls
def ldrop : Nat → List Leaf → List Leaf
  | 0, ls => ls
  | _, [] => []
  | n + 1, _ :: ls => ldrop n ls
def explode : (t : Ty) → t.den → List Leaf
  | .pair a b, x => explode a x.1 ++ explode b x.2
  | .int k, x => [.val (.int k) x]
  | .bool, x => [.val .bool x]
  | .str, x => [.val .str x]
  | .list e, x => [.val (.list e) x]
def Leaf.as (t : Ty) : Leaf → Option t.den
  | .val t' x => if h : t' = t then some (h ▸ x) else none
  | .nils => match t with
    | .list e => some ([] : List e.den)
    | _ => none
  | _ => none
/-- A value out of its leaves (none of them owned). -/
def implode : (t : Ty) → List Leaf → Option t.den
  | .pair a b, ls => match implode a (ltake a.sz ls), implode b (ldrop a.sz ls) with
    | some x, some y => some (x, y)
    | _, _ => none
  | .int k, ls => (lget ls 0).as (.int k)
  | .bool, ls => (lget ls 0).as .bool
  | .str, ls => (lget ls 0).as .str
  | .list e, ls => (lget ls 0).as (.list e)
/-- A hole's place, if it is none of these. -/
def oqf (b : Pl → Bool) : Option Pl → Option Pl
  | some q => match b q with
    | true => none
    | false => some q
  | none => none
def oqm (p q : Pl) : Option Pl → Option Pl
  | some r => if r = p then some q else some r
  | none => none
/-- A row of which another place is a part: its elements' kind, its length. -/
def rowTy : Leaf → Option (Ty × Nat)
  | .own _ e xs => some (e, List.length xs)
  | .hol _ e xs _ _ => some (.list e, List.length xs)
  | _ => none
def Leaf.isOwn : Leaf → Bool
  | .own .. => true
  | .hol .. => true
  | _ => false
def Leaf.isAl (p : Pl) : Leaf → Bool
  | .al q => q = p
  | _ => false
def Leaf.known : Leaf → Bool
  | .und => false
  | .no => false
  | _ => true
def Slot.owns : Slot → Bool
  | .box _ => true
  | .itr _ _ _ => true
  | s => s.leaves.any Leaf.isOwn
noncomputable def mapL (f : Leaf → Leaf) (σ : St) : St := St.rec (motive := fun _ => St) (fun n tr => ⟨n, mapT f tr⟩) σ
/-- What leads to slot `d` is gone. -/
def killL (d : Nat) : Leaf → Leaf
  | .al p => if p.t = d then .und else .al p
  | .ptr b o => if b = d then .und else .ptr b o
  | .ept p e i o => if p.t = d then .und else .ept p e i o
  | .clo f bs => if bs.contains d then .und else .clo f bs
  | .hol te e xs i q => .hol te e xs i (oqf (fun r => r.t == d) q)
  | l => l
def kill (σ : St) (d : Nat) : St := if (gs σ d).owns then mapL (killL d) σ else σ
/-- What leads to place `p` is gone. -/
def killP (p : Pl) : Leaf → Leaf
  | .al q => if q = p then .und else .al q
  | .ept q e i o => if q = p then .und else .ept q e i o
  | .hol te e xs i q => .hol te e xs i (oqf (fun r => decide (r = p)) q)
  | l => l
/-- What leads to place `p` leads to place `q`. -/
def mvP (p q : Pl) : Leaf → Leaf
  | .al r => if r = p then .al q else .al r
  | .ept r e i o => if r = p then .ept q e i o else .ept r e i o
  | .hol te e xs i r => .hol te e xs i (oqm p q r)
  | l => l
/-- What is read by way of place `p` is a plain list; nothing writes there any more. -/
def frP (p : Pl) (e : Ty) (xs : List e.den) : Leaf → Leaf
  | .al r => if r = p then .val (.list e) xs else .al r
  | .ept r e' i o => if r = p then .und else .ept r e' i o
  | .hol te e' ys i r => .hol te e' ys i (oqf (fun r => decide (r = p)) r)
  | l => l
/-- The leaf at place `q` takes over what it is read by. -/
def xfer (σ : St) (q : Pl) : St :=
  match gl σ q with
  | .al p => match gl σ p with
    | .own te e xs => sl (sl (mapL (mvP p q) σ) p (.al q)) q (.own te e xs)
    | _ => σ
  | _ => σ
def xfers (σ : St) (d : Nat) : Nat → Nat → St
  | _, 0 => σ
  | i, n + 1 => xfers (xfer σ ⟨d, i⟩) d (i + 1) n
/-- What is owned at place `p` becomes a plain list. -/
def frz (σ : St) (p : Pl) : St :=
  match gl σ p with
  | .own _ e xs => mapL (frP p e xs) (sl σ p (.val (.list e) xs))
  | _ => σ
/-- A row's hole is filled: what is there is a plain list. -/
def stl (σ : St) (p : Pl) : St :=
  match gl σ p with
  | .hol te e xs i (some q) => match gl σ q with
    | .own _ e' ys => if h : e' = e then sl (frz σ q) p (.own te (.list e) (xs.set i.toNat (h ▸ ys))) else σ
    | _ => σ
  | _ => σ
def stlL (σ : St) : Leaf → St
  | .al p => stl σ p
  | _ => σ
/-- Each leaf that is read by way of a place becomes a plain list. -/
def freezeL : List Leaf → St → St × List Leaf
  | [], σ => (σ, [])
  | .al p :: ls, σ =>
    let σ1 := frz σ p
    let r := freezeL ls σ1
    (r.1, (match gl σ1 p with | .val t x => .val t x | _ => .und) :: r.2)
  | l :: ls, σ => let r := freezeL ls σ; (r.1, l :: r.2)
/-- A slot is written anew; nothing is taken over. -/
def wr (σ : St) (d : Option Nat) (s : Slot) : St :=
  match d with
  | none => σ
  | some d => ss (kill σ d) d (s.with (s.leaves.map (killL d)))
/-- A slot is written anew; what its leaves read by way of places is taken over. -/
def wrT (σ : St) (d : Option Nat) (s : Slot) : St :=
  match d with
  | none => σ
  | some d => xfers (wr σ (some d) s) d 0 s.leaves.length
/-- A leaf is written anew. -/
def wrP (σ : St) (p : Pl) (l : Leaf) : St :=
  sl (match (gl σ p).isOwn with | true => mapL (killP p) σ | false => σ) p (killP p l)
/-- A leaf that leads where nothing is owned any more is gone. -/
def san (σ : St) : Leaf → Leaf
  | .al q => if (gl σ q).isOwn then .al q else .und
  | .ept .. => .und
  | l => l
/-- Leaves are stored from leaf `i` of slot `d` on, one by one. -/
def stL (d : Nat) : Nat → Nat → List Leaf → St → St
  | 0, _, _, σ => σ
  | _ + 1, _, [], σ => σ
  | n + 1, i, l :: ls, σ => stL d n (i + 1) (ls.map (killP ⟨d, i⟩)) (xfer (wrP σ ⟨d, i⟩ (san σ l)) ⟨d, i⟩)
def leafOf : Value → Leaf
  | .int k n => .val (.int k) n
  | .bool b => .val .bool b
  | .string s => .val .str s.data.toList
  | .slice none 0 0 => .nils
  | .agg _ => .und
  | .tuple _ => .und
  | v => .cst v
def constSlot : Value → Bool × List Leaf
  | .agg cs => (true, cs.toList.map leafOf)
  | v => (false, [leafOf v])
/-- An operand's value. -/
def rd (σ : St) : Operand → Bool × List Leaf
  | .tmp t => match gs σ t with
    | .cs a ls => (a, view t 0 ls)
    | .box _ => (false, [.ptr t 0])
    | .tup _ _ => (false, [.und])
    | .itr _ _ _ => (false, [.und])
    | .vb _ => (false, [.und])
  | .const v => constSlot v
  | .func f => (false, [.clo f []])
  | .global _ => (false, [.und])
def rd1 (σ : St) (x : Operand) : Leaf := match rd σ x with
  | (false, ls) => lget ls 0
  | _ => .und
/-- A row's elements. -/
def rowOf (σ : St) (e : Ty) : Leaf → Option (List e.den)
  | .val (.list e') xs => if h : e' = e then some (h ▸ xs) else none
  | .nils => some []
  | .al p => match gl σ p with
    | .own _ e' xs => if h : e' = e then some (h ▸ xs) else none
    | _ => none
  | _ => none
def at_ {e : Ty} (xs : List e.den) (i : Int) : e.den := xs.getD i.toNat e.zero
/-- Bits of two numbers of a kind. -/
def andI (k : IntKind) (x y : Int) : Int := k.wrap ((BitVec.ofInt k.bits x &&& BitVec.ofInt k.bits y).toNat : Int)
def orI (k : IntKind) (x y : Int) : Int := k.wrap ((BitVec.ofInt k.bits x ||| BitVec.ofInt k.bits y).toNat : Int)
def xorI (k : IntKind) (x y : Int) : Int := k.wrap ((BitVec.ofInt k.bits x ^^^ BitVec.ofInt k.bits y).toNat : Int)
def clrI (k : IntKind) (x y : Int) : Int := k.wrap ((BitVec.ofInt k.bits x &&& ~~~ BitVec.ofInt k.bits y).toNat : Int)
def shlI (k : IntKind) (x y : Int) : Int := k.wrap (x * 2 ^ min y.toNat k.bits)
def shrI (k : IntKind) (x y : Int) : Int := x.fdiv (2 ^ min y.toNat k.bits)
/-- The code point of a text at a place, and its width, as a range over the text tells it. -/
def udec (a : List UInt8) (i : Nat) : Nat × Nat := Utf8.decode ⟨a.toArray⟩ i
/-- A byte. -/
def byte (n : Int) : UInt8 := UInt8.ofNat n.toNat
/-- The kinds of two operands go together. -/
def okk (op : BinOp) (k k' : IntKind) : Bool := match op with
  | .shl => true
  | .shr => true
  | _ => decide (k = k')
/-- A comparison or an operation on two numbers. -/
def binInt (op : BinOp) (k : IntKind) (x y : Int) : Option Leaf :=
  match op with
  | .add => some (.val (.int k) (k.wrap (x + y)))
  | .sub => some (.val (.int k) (k.wrap (x - y)))
  | .mul => some (.val (.int k) (k.wrap (x * y)))
  | .eql => some (.val .bool (x == y))
  | .neq => some (.val .bool (x != y))
  | .lss => some (.val .bool (decide (x < y)))
  | .leq => some (.val .bool (decide (x ≤ y)))
  | .gtr => some (.val .bool (decide (x > y)))
  | .geq => some (.val .bool (decide (x ≥ y)))
  | .and => some (.val (.int k) (andI k x y))
  | .or => some (.val (.int k) (orI k x y))
  | .xor => some (.val (.int k) (xorI k x y))
  | .andNot => some (.val (.int k) (clrI k x y))
  | .shl => if y < 0 then none else some (.val (.int k) (shlI k x y))
  | .shr => if y < 0 then none else some (.val (.int k) (shrI k x y))
  | _ => none
def strLess : List UInt8 → List UInt8 → Bool := Op.bytesLess
def binStr (op : BinOp) (x y : List UInt8) : Option Leaf :=
  match op with
  | .eql => some (.val .bool (x == y))
  | .neq => some (.val .bool (!(x == y)))
  | .lss => some (.val .bool (strLess x y))
  | .leq => some (.val .bool (strLess x y || x == y))
  | .gtr => some (.val .bool (!(strLess x y || x == y)))
  | .geq => some (.val .bool (!strLess x y))
  | _ => none
def Ty.leaves : Ty → List Ty
  | .pair a b => a.leaves ++ b.leaves
  | t => [t]
/-- Equality of leaves, one by one. -/
def eqLeaves : List Ty → List Leaf → List Leaf → Option Bool
  | [], [], [] => some true
  | .int k :: ts, .val (.int k1) x :: ls, .val (.int k2) y :: ms => if k1 = k ∧ k2 = k then (eqLeaves ts ls ms).map fun b => ((x : Int) == y) && b else none
  | .bool :: ts, .val .bool x :: ls, .val .bool y :: ms => (eqLeaves ts ls ms).map fun b => ((x : Bool) == y) && b
  | .str :: ts, .val .str x :: ls, .val .str y :: ms => (eqLeaves ts ls ms).map fun b => ((x : List UInt8) == y) && b
  | _, _, _ => none
def isTy (T : TypeId → Option TI) (t : TypeId) (ty : Ty) : Bool := match T t with
  | some ti => decide (ti.ty = ty) && !ti.agg
  | none => false
def flatF (T : TypeId → Option TI) : Nat → List (Nat × TypeId) → List Ty → Bool
  | _, [], [] => true
  | i, (o, ft) :: fs, t :: ts => o == i && isTy T ft t && flatF T (i + 1) fs ts
  | _, _, _ => false
/-- The leaves' kinds of a struct type whose values can be compared, each field being one leaf. -/
def flat (T : TypeId → Option TI) (t : TypeId) : Option (List Ty) := match T t with
  | some ti => if ti.cmp = true ∧ ti.agg = true ∧ flatF T 0 ti.fs ti.ty.leaves = true then some ti.ty.leaves else none
  | none => none
/-- Kinds of leaves: a plain value, or an owned row. -/
inductive LK where
  | fr (t : Ty)
  | ow (te : TypeId) (e : Ty)
  | oo (te : TypeId) (e : Ty)
@[reducible] def LK.den : LK → Type
  | .fr t => t.den
  | .ow _ e => List e.den
  | .oo _ e => Option (List e.den)
@[reducible] def HL : List LK → Type
  | [] => Unit
  | k :: ks => k.den × HL ks
@[reducible] def BL : List (List LK) → Type
  | [] => Unit
  | b :: bs => HL b × BL bs
/-- Kinds of parameters: a value; an owned row; a pointer to box number `b`; a function that holds boxes; an owned row that is written in place and comes back. -/
inductive PK where
  | v (agg : Bool) (t : Ty)
  | o (te : TypeId) (e : Ty)
  | p (b : Nat)
  | f (g : FuncId) (bs : List Nat)
  | w (te : TypeId) (e : Ty)
def PK.lk : PK → List LK
  | .v _ t => [.fr t]
  | .o te e => [.ow te e]
  | .w te e => [.ow te e]
  | _ => []
/-- A function's kinds: its parameters, the boxes that it is handed, its results (a struct or not, and its leaves). -/
structure Sig where
  ps : List PK
  bs : List (List LK)
  rs : List (Bool × List LK)
def Sig.ins (s : Sig) : List LK := s.ps.flatMap PK.lk
/-- The rows that are written in place. -/
def PK.wk : PK → List (List LK)
  | .w te e => [[.ow te e]]
  | _ => []
def Sig.ws (s : Sig) : List (List LK) := s.ps.flatMap PK.wk
abbrev Sig.Out (s : Sig) : Type := BL (s.rs.map (·.2)) × BL (s.bs ++ s.ws)
abbrev Sig.Fn (s : Sig) : Type := HL s.ins → BL s.bs → Option s.Out
structure Fun where
  s : Sig
  F : s.Fn
abbrev Env := List (FuncId × Fun)
def Ty.plain : Ty → Bool
  | .list _ => false
  | .pair a b => a.plain && b.plain
  | _ => true
def LK.plain : LK → Bool
  | .fr t => t.plain
  | _ => false
/-- Nothing that the function hands back can lead to what it was handed. -/
def Sig.scalar (s : Sig) : Bool := s.rs.all (fun r => r.2.all LK.plain) && s.bs.isEmpty && s.ps.all fun p => match p with | .v .. => true | _ => false
abbrev Arg := Bool × List Leaf
def fitsF : List PK → List Arg → Bool
  | [], [] => true
  | .f g _ :: ps, (_, ls) :: as => (match lget ls 0 with | .clo h _ => h == g | _ => false) && fitsF ps as
  | _ :: ps, _ :: as => fitsF ps as
  | _, _ => false
def findF (f : FuncId) (as : List Arg) : Env → Option Fun
  | [] => none
  | (g, F) :: env => if g = f ∧ fitsF F.s.ps as = true then some F else findF f as env
/-- The slots of the boxes that a call is handed, by their numbers. -/
def bset (b t : Nat) (m : List (Nat × Nat)) : Option (List (Nat × Nat)) :=
  match m.lookup b with
  | some t' => if t' = t then some m else none
  | none => if m.any (fun x => x.2 == t) then none else some (m ++ [(b, t)])
def bsetAll : List Nat → List Nat → List (Nat × Nat) → Option (List (Nat × Nat))
  | [], [], m => some m
  | b :: bs, t :: ts, m => match bset b t m with
    | some m => bsetAll bs ts m
    | none => none
  | _, _, _ => none
def takeOwn (σ : St) (te : TypeId) (e : Ty) : Leaf → Option (St × List e.den)
  | .al p => match gl σ p with
    | .own te' e' xs => if te' = te then (if h : e' = e then some (sl (mapL (killP p) σ) p .und, h ▸ xs) else none) else none
    | _ => none
  | .nils => some (σ, [])
  | _ => none
/-- The arguments of a call. -/
def gather (borrow : Bool) : (ps : List PK) → List Arg → St → List (Nat × Nat) → Option (St × HL (ps.flatMap PK.lk) × List (Nat × Nat))
  | [], [], σ, m => some (σ, (), m)
  | .v a t :: ps, (a', ls) :: as, σ, m =>
    if a' = a ∧ ls.length = t.sz then
      let r := freezeL ls σ
      match implode t r.2 with
      | some x => match gather borrow ps as (match borrow with | true => σ | false => r.1) m with
        | some (σ2, xs, m2) => some (σ2, (x, xs), m2)
        | none => none
      | none => none
    else none
  | .o te e :: ps, (a', ls) :: as, σ, m =>
    if a' = false then match takeOwn σ te e (lget ls 0) with
    | some (σ1, x) => match gather borrow ps as σ1 m with
      | some (σ2, xs, m2) => some (σ2, (x, xs), m2)
      | none => none
    | none => none
    else none
  | .w te e :: ps, (a', ls) :: as, σ, m =>
    if a' = false then match takeOwn σ te e (lget ls 0) with
    | some (σ1, x) => match gather borrow ps as σ1 m with
      | some (σ2, xs, m2) => some (σ2, (x, xs), m2)
      | none => none
    | none => none
    else none
  | .p b :: ps, (a', ls) :: as, σ, m =>
    if a' = false then match lget ls 0 with
    | .ptr t 0 => match bset b t m with
      | some m1 => gather borrow ps as σ m1
      | none => none
    | _ => none
    else none
  | .f g bs :: ps, (a', ls) :: as, σ, m =>
    if a' = false then match lget ls 0 with
    | .clo h ts => if h = g then (match bsetAll bs ts m with
      | some m1 => gather borrow ps as σ m1
      | none => none) else none
    | _ => none
    else none
  | _, _, _, _ => none
/-- What boxes hold, handed over: leaf by leaf. -/
def takeBox (t : Nat) : (ks : List LK) → Nat → St → Option (St × HL ks)
  | [], _, σ => some (σ, ())
  | .fr k :: ks, i, σ =>
    let r := freezeL (ltake 1 (view t i (ltake 1 (ldrop i (gs σ t).leaves)))) σ
    match (lget r.2 0).as k with
    | some x => match takeBox t ks (i + 1) r.1 with
      | some (σ2, xs) => some (σ2, x, xs)
      | none => none
    | none => none
  | .ow te e :: ks, i, σ =>
    match takeOwn σ te e (lget (view t i (ltake 1 (ldrop i (gs σ t).leaves))) 0) with
    | some (σ1, x) => match takeBox t ks (i + 1) σ1 with
      | some (σ2, xs) => some (σ2, x, xs)
      | none => none
    | none => none
  | .oo te e :: ks, i, σ =>
    match takeOwn σ te e (lget (view t i (ltake 1 (ldrop i (gs σ t).leaves))) 0) with
    | some (σ1, x) => match takeBox t ks (i + 1) σ1 with
      | some (σ2, xs) => some (σ2, some x, xs)
      | none => none
    | none => match (gl σ ⟨t, i⟩).isOwn with
      | true => none
      | false => match takeBox t ks (i + 1) σ with
        | some (σ2, xs) => some (σ2, (none : Option (List e.den)), xs)
        | none => none
def takeBoxes (m : List (Nat × Nat)) : (bs : List (List LK)) → Nat → St → Option (St × BL bs)
  | [], _, σ => some (σ, ())
  | b :: bs, i, σ => match m.lookup i with
    | some t => if (gs σ t).leaves.length = b.length ∧ b.isEmpty = false then (match takeBox t b 0 σ with
      | some (σ1, x) => match takeBoxes m bs (i + 1) σ1 with
        | some (σ2, xs) => some (σ2, x, xs)
        | none => none
      | none => none) else none
    | none => none
def outL : (ks : List LK) → HL ks → List Leaf
  | [], _ => []
  | .fr t :: ks, x => explode t x.1 ++ outL ks x.2
  | .ow te e :: ks, x => .own te e x.1 :: outL ks x.2
  | .oo te e :: ks, x => (match x.1 with
    | some xs => .own te e xs
    | none => .und) :: outL ks x.2
def putBoxes (m : List (Nat × Nat)) : (bs : List (List LK)) → Nat → BL bs → St → St
  | [], _, _, σ => σ
  | b :: bs, i, x, σ => match m.lookup i with
    | some t => putBoxes m bs (i + 1) x.2 (ss σ t (.box (outL b x.1)))
    | none => σ
/-- The boxes that come back; the rows that do. -/
def splitB : (bs : List (List LK)) → {ws : List (List LK)} → BL (bs ++ ws) → BL bs × BL ws
  | [], _, y => ((), y)
  | _ :: bs, _, y => ((y.1, (splitB bs y.2).1), (splitB bs y.2).2)
/-- Where rows come from that are written in place. -/
def wpl : List PK → List Arg → List (Option Pl)
  | .w _ _ :: ps, (_, ls) :: as => (match lget ls 0 with
    | .al p => some p
    | _ => none) :: wpl ps as
  | _ :: ps, _ :: as => wpl ps as
  | _, _ => []
/-- Slots that led to a place before a call lead there again. -/
def reAl (m : List (Nat × Nat)) (σ0 : St) (p : Pl) : Nat → St → St
  | 0, σ => σ
  | n + 1, σ => reAl m σ0 p n (match gl σ0 ⟨n, 0⟩ with
    | .al q => if q = p then (match m.any (fun x => x.2 == n), gl σ ⟨n, 0⟩ with
      | false, .und => sl σ ⟨n, 0⟩ (.al p)
      | _, _ => σ) else σ
    | _ => σ)
/-- Rows that were written in place come back to their places (none of them in a box that was handed over). -/
def putW (m : List (Nat × Nat)) (σ0 : St) : (ps : List PK) → BL (ps.flatMap PK.wk) → List (Option Pl) → St → Option St
  | [], _, _, σ => some σ
  | .w te e :: ps, y, some p :: pl, σ => match m.any (fun q => q.2 == p.t), gl σ p with
    | false, .und => putW m σ0 ps y.2 pl (reAl m σ0 p σ0.length (sl σ p (.own te e y.1.1)))
    | _, _ => none
  | .w _ _ :: ps, y, none :: pl, σ => putW m σ0 ps y.2 pl σ
  | .w _ _ :: _, _, [], _ => none
  | .v _ _ :: ps, y, pl, σ => putW m σ0 ps y pl σ
  | .o _ _ :: ps, y, pl, σ => putW m σ0 ps y pl σ
  | .p _ :: ps, y, pl, σ => putW m σ0 ps y pl σ
  | .f _ _ :: ps, y, pl, σ => putW m σ0 ps y pl σ
def outR : (rs : List (Bool × List LK)) → BL (rs.map (·.2)) → List (Bool × Nat) × List Leaf
  | [], _ => ([], [])
  | (a, ks) :: rs, x => let ls := outL ks x.1; let r := outR rs x.2; ((a, ls.length) :: r.1, ls ++ r.2)
def outSlot (rs : List (Bool × List LK)) (x : BL (rs.map (·.2))) : Slot :=
  match outR rs x with
  | ([(a, _)], ls) => .cs a ls
  | (ks, ls) => .tup ks ls
section
variable {A : Type}
def bcond (b : Bool) (x y : A) : A := match b with
  | true => x
  | false => y
def callK (env : Env) (σ : St) (d : Option Nat) (f : FuncId) (as : List Arg) (k : St → Option A) : Option A :=
  match findF f as env with
  | none => none
  | some F => match gather F.s.scalar F.s.ps as σ [] with
    | none => none
    | some (σ1, xs, m) => match takeBoxes m F.s.bs 0 σ1 with
      | none => none
      | some (σ2, bs) => (F.F xs bs).bind fun r => match putW m σ F.s.ps (splitB F.s.bs r.2).2 (wpl F.s.ps as) (putBoxes m F.s.bs 0 (splitB F.s.bs r.2).1 σ2) with
        | some σ3 => k (wr σ3 d (outSlot F.s.rs r.1))
        | none => none
/-- The leaves of a value of a type, all zero. -/
def zeroL (t : Ty) : List Leaf := (explode t t.zero).map fun l => match l with
  | .val (.list _) _ => .nils
  | l => l
def setAt (ls : List Leaf) (o : Nat) : List Leaf → List Leaf
  | [] => ls
  | x :: xs => setAt (lset ls o x) (o + 1) xs
/-- An element with some of its leaves replaced. -/
def upd (t : Ty) (x : t.den) (o : Nat) (ls : List Leaf) : Option t.den := implode t (setAt (explode t x) o ls)
def fillS (T : TypeId → Option TI) (fs : List (Nat × TypeId)) (σ : St) : List (Nat × Operand) → List Leaf → Option (List Leaf)
  | [], ls => some ls
  | (i, x) :: ps, ls => match fs[i]? with
    | some (o, ft) => match T ft with
      | some fi => if (rd σ x).1 = fi.agg ∧ (rd σ x).2.length = fi.ty.sz ∧ (rd σ x).2.all Leaf.known = true ∧ o + fi.ty.sz ≤ ls.length then fillS T fs σ ps (setAt ls o (rd σ x).2) else none
      | none => none
    | none => none
def fillE (e : Ty) : List (Nat × List Leaf) → List e.den → Option (List e.den)
  | [], xs => some xs
  | (i, ls) :: ps, xs => if i < xs.length ∧ ls.length = e.sz then match implode e ls with
    | some x => fillE e ps (xs.set i x)
    | none => none
    else none
/-- The parts of a new row, each a plain value. -/
def frParts (ag : Bool) : List (Nat × Operand) → St → St × List (Nat × List Leaf)
  | [], σ => (σ, [])
  | (i, x) :: ps, σ =>
    let r := freezeL (rd σ x).2 σ
    let r2 := frParts ag ps r.1
    (r2.1, (i, if (rd σ x).1 = ag ∧ (rd σ x).2.all Leaf.known = true then r.2 else []) :: r2.2)
def field? (T : TypeId → Option TI) (t : TypeId) (i : Nat) : Option (Nat × TI) :=
  match T t with
  | some ti => match ti.fs[i]? with
    | some (o, ft) => match T ft with
      | some fi => some (o, fi)
      | none => none
    | none => none
  | none => none
/-- An array's elements out of its leaves. -/
def imps (e : Ty) : Nat → List Leaf → Option (List e.den)
  | 0, _ => some []
  | n + 1, ls => match implode e (ltake e.sz ls), imps e n (ldrop e.sz ls) with
    | some x, some xs => some (x :: xs)
    | _, _ => none
/-- Field `i` of a plain tuple. -/
def subTy : (t : Ty) → t.den → Nat → Ty → Option Leaf
  | .pair a b, x, o, want => if h : Ty.pair a b = want then (if o = 0 then some (.vpt want (h ▸ x)) else none) else if o < a.sz then subTy a x.1 o want else subTy b x.2 (o - a.sz) want
  | .int k, x, o, want => if h : Ty.int k = want then (if o = 0 then some (.vpt want (h ▸ x)) else none) else none
  | .bool, x, o, want => if h : Ty.bool = want then (if o = 0 then some (.vpt want (h ▸ x)) else none) else none
  | .str, x, o, want => if h : Ty.str = want then (if o = 0 then some (.vpt want (h ▸ x)) else none) else none
  | .list e, x, o, want => if h : Ty.list e = want then (if o = 0 then some (.vpt want (h ▸ x)) else none) else none
/-- What an operand holds, a call's results among it. -/
def rdS (σ : St) (x : Operand) : Slot := match x with
  | .tmp t => match gs σ t with
    | .tup ks ls => .tup ks (view t 0 ls)
    | _ => .cs (rd σ x).1 (rd σ x).2
  | _ => .cs (rd σ x).1 (rd σ x).2
def natAt (σ : St) : Option Operand → Nat → Option Int
  | none, n => some n
  | some x, _ => match rd1 σ x with
    | .val (.int _) i => some i
    | _ => none
/-- One operation, where no row has a hole. -/
def opK0 (T : TypeId → Option TI) (env : Env) (o : Oper) (σ : St) (k : St → Option A) : Option A :=
  let d := o.dst
  match o.op with
  | .move x => k (wr σ d (rdS σ x))
  | .assign x => let r := rd σ x; k (wrT σ d (.cs r.1 r.2))
  | .pick c a b => match rd1 σ c with
    | .val .bool v => match v, rd1 σ a, rd1 σ b with
      | true, l, _ => k (wr σ d (.cs false [l]))
      | false, _, l => k (wr σ d (.cs false [l]))
    | _ => none
  | .alloc t => match T t with
    | some ti => k (wr σ d (.box (zeroL ti.ty)))
    | none => none
  | .box t x => match T t with
    | some ti => let r := rd σ x; if r.1 = ti.agg ∧ r.2.length = ti.ty.sz ∧ r.2.all Leaf.known = true then k (wrT σ d (.box r.2)) else none
    | none => none
  | .build t parts => match T t with
    | some ti => if ti.agg = false then none else match ti.arr with
      | 0 => match fillS T ti.fs σ parts.toList (zeroL ti.ty) with
        | some ls => k (wrT σ d (.cs true ls))
        | none => none
      | n + 1 => match T ti.el with
        | some ei => match fillS T ((List.range (n + 1)).map fun i => (i * ei.ty.sz, ti.el)) σ parts.toList (zeroL ti.ty) with
          | some ls => k (wrT σ d (.cs true ls))
          | none => none
        | none => none
    | none => none
  | .buildSlice t len parts => match T t with
    | some ti => match T ti.el with
      | some ei =>
        let r := frParts ei.agg parts.toList σ
        if ti.agg = true ∨ ti.ty ≠ .list ei.ty ∨ 16777216 < len * ei.ty.sz then none else match fillE ei.ty r.2 (List.replicate len ei.ty.zero) with
        | some xs => k (wr r.1 d (.cs false [.own ti.el ei.ty xs]))
        | none => none
      | none => none
    | none => none
  | .load t x => match T t with
    | some ti => match rd1 σ x with
      | .ptr b o => if o + ti.ty.sz ≤ (gs σ b).leaves.length then k (wr σ d (.cs ti.agg (view b o (ltake ti.ty.sz (ldrop o (gs σ b).leaves))))) else none
      | .ept p e i o => match rowOf σ e (.al p) with
        | some xs => if o + ti.ty.sz ≤ e.sz then k (wr σ d (.cs ti.agg (ltake ti.ty.sz (ldrop o (explode e (at_ xs i)))))) else none
        | none => none
      | .vpt t' x => if t' = ti.ty then k (wr σ d (.cs ti.agg (explode t' x))) else none
      | _ => none
    | none => none
  | .store t x y => if d.isSome then none else match T t with
    | some ti => match rd1 σ x with
      | .ptr b o => if (rd σ y).1 = ti.agg ∧ (rd σ y).2.length = ti.ty.sz ∧ (rd σ y).2.all Leaf.known = true ∧ o + ti.ty.sz ≤ (gs σ b).leaves.length then k (stL b (rd σ y).2.length o (rd σ y).2 σ) else none
      | .ept p e i o => if (rd σ y).1 = ti.agg ∧ (rd σ y).2.length = ti.ty.sz ∧ (rd σ y).2.all Leaf.known = true ∧ o + ti.ty.sz ≤ e.sz then
        let r := freezeL (rd σ y).2 σ
        match gl r.1 p with
        | .own te e' xs => if h : e' = e then (match upd e (at_ (h ▸ xs) i) o r.2 with
          | some v => k (sl r.1 p (.own te e ((h ▸ xs : List e.den).set i.toNat v)))
          | none => none) else none
        | _ => none
        else none
      | _ => none
    | none => none
  | .nilCheck x => match rd1 σ x with
    | .ptr b o => k (wr σ d (.cs false [.ptr b o]))
    | .ept p e i o => if o ≤ e.sz then k (wr σ d (.cs false [.ept p e i o])) else none
    | .vpt t x => k (wr σ d (.cs false [.vpt t x]))
    | _ => none
  | .binOp op t x y _ => match rd σ x, rd σ y with
    | (false, [.val (.int kk) a]), (false, [.val (.int kk') b]) =>
      if okk op kk kk' = true then match op with
        | .quo => if (b : Int) = 0 then none else k (wr σ d (.cs false [.val (.int kk) (kk.wrap (Int.tdiv a b))]))
        | .rem => if (b : Int) = 0 then none else k (wr σ d (.cs false [.val (.int kk) (Int.tmod a b)]))
        | .shl => if (b : Int) < 0 then none else k (wr σ d (.cs false [.val (.int kk) (shlI kk a b)]))
        | .shr => if (b : Int) < 0 then none else k (wr σ d (.cs false [.val (.int kk) (shrI kk a b)]))
        | _ => match binInt op kk a b with
          | some l => k (wr σ d (.cs false [l]))
          | none => none
      else none
    | (false, [.val .str a]), (false, [.val .str b]) => match op with
      | .add => if List.length a + List.length b ≤ 140737488351232 then k (wr σ d (.cs false [.val .str (List.append a b)])) else none
      | _ => match binStr op a b with
        | some l => k (wr σ d (.cs false [l]))
        | none => none
    | (false, [.val .bool a]), (false, [.val .bool b]) => if isTy T t .bool = false then none else match op with
      | .eql => k (wr σ d (.cs false [.val .bool ((a : Bool) == b)]))
      | .neq => k (wr σ d (.cs false [.val .bool ((a : Bool) != b)]))
      | _ => none
    | (true, ls), (true, ms) => match flat T t with
      | none => none
      | some ts => match op, eqLeaves ts ls ms with
        | .eql, some b => k (wr σ d (.cs false [.val .bool b]))
        | .neq, some b => k (wr σ d (.cs false [.val .bool (!b)]))
        | _, _ => none
    | _, _ => none
  | .unOp op _ x => match op, rd1 σ x with
    | .not, .val .bool b => k (wr σ d (.cs false [.val .bool (!(b : Bool))]))
    | .neg, .val (.int kk) a => k (wr σ d (.cs false [.val (.int kk) (kk.wrap (0 - (a : Int)))]))
    | _, _ => none
  | .convert src dst x => match T src, T dst with
    | some si, some ti => match si.ty, ti.ty, rd1 σ x with
      | .int _, .int kk, .val (.int _) a => if ti.agg = true ∨ si.agg = true then none else k (wr σ d (.cs false [.val (.int kk) (kk.wrap a)]))
      | .str, .str, .val .str a => if ti.agg = true ∨ si.agg = true then none else k (wr σ d (.cs false [.val .str a]))
      | .list _, .str, l => if ti.agg = true ∨ si.agg = true ∨ isTy T si.el (.int .u8) = false ∨ dst ≠ strId then none else match rowOf σ (.int .u8) l with
        | some xs => k (wr σ d (.cs false [.val .str (List.map byte xs)]))
        | none => none
      | _, _, _ => none
    | _, _ => none
  | .slice t x lo hi none => match T t with
    | none => none
    | some ti => if ti.agg then none else match ti.ty with
      | .str => match rd1 σ x with
        | .val .str a => match natAt σ lo 0, natAt σ hi (List.length a) with
          | some l, some h => if 0 ≤ h ∧ h ≤ (List.length a : Int) ∧ 0 ≤ l ∧ l ≤ h then k (wr σ d (.cs false [.val .str ((List.take h.toNat a).drop l.toNat)])) else none
          | _, _ => none
        | _ => none
      | .list e =>
        let r := freezeL [rd1 σ x] σ
        if (T ti.el).isNone then none else match lget r.2 0 with
        | .val (.list e') xs => if h0 : e' = e then (match natAt σ lo 0, natAt σ hi (List.length xs) with
          | some l, some h => if 0 ≤ h ∧ h ≤ (List.length xs : Int) ∧ 0 ≤ l ∧ l ≤ h then k (wr r.1 d (.cs false [.val (.list e) ((List.take h.toNat (h0 ▸ xs : List e.den)).drop l.toNat)])) else none
          | _, _ => none) else none
        | _ => none
      | _ => none
  | .fieldAddr t x i => match field? T t i with
    | some (f, fi) => match rd1 σ x with
      | .ptr b o => k (wr σ d (.cs false [.ptr b (o + f)]))
      | .ept p e i o => if o + f ≤ e.sz then k (wr σ d (.cs false [.ept p e i (o + f)])) else none
      | .vpt t' x => match subTy t' x f fi.ty with
        | some l => k (wr σ d (.cs false [l]))
        | none => none
      | _ => none
    | none => none
  | .field t x i => match field? T t i with
    | some (f, fi) => match x with
      | .tmp s => match gs σ s with
        | .cs true ls => if f + fi.ty.sz ≤ ls.length then k (wr σ d (.cs fi.agg (view s f (ltake fi.ty.sz (ldrop f ls))))) else none
        | _ => none
      | _ => none
    | none => none
  | .indexAddr t x ix => match T t with
    | some ti => if ti.agg then none else match ti.ty with
      | .list et => match T ti.el with
        | some ei => match rd1 σ ix with
          | .val (.int _) i => match rd1 σ x with
            | .val (.list e) xs => if e = et then (if 0 ≤ (i : Int) ∧ (i : Int) < (List.length xs : Int) then k (wr σ d (.cs false [.vpt e (at_ xs i)])) else none) else none
            | .al p => match gl σ p with
              | .own _ e xs => if e = et then (if 0 ≤ (i : Int) ∧ (i : Int) < (List.length xs : Int) then k (wr σ d (.cs false [.ept p e i 0])) else none) else none
              | _ => none
            | _ => none
          | _ => none
        | none => none
      | _ => none
    | none => none
  | .index t x ix => match T t with
    | none => none
    | some ti => match ti.arr with
      | n + 1 => match T ti.el, x, rd1 σ ix with
        | some ei, .tmp s, .val (.int _) i => match gs σ s with
          | .cs true ls => if ls.length = (n + 1) * ei.ty.sz then (match imps ei.ty (n + 1) ls with
            | some xs => if 0 ≤ (i : Int) ∧ (i : Int) < ((n + 1 : Nat) : Int) then k (wr σ d (.cs ei.agg (explode ei.ty (at_ xs i)))) else none
            | none => none) else none
          | _ => none
        | _, _, _ => none
      | 0 => if ti.agg then none else match ti.ty, rd1 σ x, rd1 σ ix with
    | .str, .val .str a, .val (.int _) i => if 0 ≤ (i : Int) ∧ (i : Int) < (List.length a : Int) then k (wr σ d (.cs false [.val (.int .u8) ((List.getD a (Int.toNat i) 0).toNat : Int)])) else none
    | _, _, _ => none
  | .makeFunc (.func f) first captured =>
    let bs := captured.toList.map fun x => rd1 σ x
    if first.toList.isEmpty && bs.all (fun l => match l with | .ptr _ 0 => true | _ => false) then
      k (wr σ d (.cs false [.clo f (bs.map fun l => match l with | .ptr b _ => b | _ => 0)]))
    else none
  | .makeSlice t l c => match T t with
    | some ti => if ti.agg then none else match ti.ty with
      | .list _ => match T ti.el with
        | some ei => match rd1 σ l, rd1 σ c with
          | .val (.int _) n, .val (.int _) m => if 0 ≤ (n : Int) ∧ (n : Int) = m ∧ (n : Int) * ei.bytes ≤ 140737488355328 ∧ (n : Int) ≤ 140737488355328 then k (wr σ d (.cs false [.own ti.el ei.ty (List.replicate (Int.toNat n) ei.ty.zero)])) else none
          | _, _ => none
        | none => none
      | _ => none
    | none => none
  | .extract x i => match x with
    | .tmp s => match gs σ s with
      | .tup ks ls => match ks[i]? with
        | some (a, n) =>
          let off := ((ks.take i).map (·.2)).sum
          k (wr σ d (.cs a (view s off (ltake n (ldrop off ls)))))
        | none => none
      | _ => none
    | _ => none
  | .call c => match c.callee with
    | .builtin .len => match c.args.toList, c.argTypes.toList with
      | [x], [t] => match T t with
        | none => none
        | some ti => if ti.agg then none else match ti.ty with
        | .str => match rd1 σ x with
          | .val .str a => k (wr σ d (.cs false [.val (.int .i64) (List.length a : Int)]))
          | _ => none
        | .list _ => match rd1 σ x with
          | .val (.list _) xs => k (wr σ d (.cs false [.val (.int .i64) (List.length xs : Int)]))
          | .nils => k (wr σ d (.cs false [.val (.int .i64) 0]))
          | .al p => match gl σ p with
            | .own _ _ xs => k (wr σ d (.cs false [.val (.int .i64) (xs.length : Int)]))
            | _ => none
          | _ => none
        | _ => none
      | _, _ => none
    | .builtin .append => match c.args.toList, c.argTypes.toList with
      | [x, y], [t, t'] => match T t with
        | some ti => match T ti.el with
          | some ei => if t' = t ∧ ti.agg = false ∧ ti.ty = .list ei.ty ∧ 0 < ei.bytes then (match rowOf σ ei.ty (rd1 σ y) with
            | some ys => match rd1 σ x with
              | .al p => if (rd1 σ y).isAl p then none else match gl σ p with
                | .own te e xs => if te = ti.el then (if h : e = ei.ty then
                    (if (List.length (h ▸ xs : List ei.ty.den) + ys.length) * ei.bytes ≤ 140737488355328 then k (wr (sl (mapL (killP p) σ) p .und) d (.cs false [.own ti.el ei.ty ((h ▸ xs) ++ ys)])) else none) else none) else none
                | _ => none
              | .nils => if ys.length * ei.bytes ≤ 140737488355328 then k (wr σ d (.cs false [.own ti.el ei.ty ys])) else none
              | _ => none
            | none => none) else none
          | none => none
        | none => none
      | _, _ => none
    | .builtin .min => match c.args.toList.map (rd1 σ) with
      | [.val (.int kk) a, .val (.int _) b] => k (wr σ d (.cs false [.val (.int kk) (if (b : Int) < a then b else a)]))
      | _ => none
    | .builtin .max => match c.args.toList.map (rd1 σ) with
      | [.val (.int kk) a, .val (.int _) b] => k (wr σ d (.cs false [.val (.int kk) (if (b : Int) > a then b else a)]))
      | _ => none
    | .value x => match rd1 σ x with
      | .clo f bs => callK env σ d f (c.args.toList.map (rd σ) ++ bs.map fun b => (false, [.ptr b 0])) k
      | _ => none
    | _ => none
  | _ => none
/-- One operation. -/
def opK (T : TypeId → Option TI) (env : Env) (o : Oper) (σ : St) (k : St → Option A) : Option A :=
  match o.op with
  | .indexAddr t x ix => match T t with
    | some ti => match ti.hot with
      | true => match rd1 σ x with
        | .al p => match gl σ p with
          | .hol _ e xs _ _ => match T ti.el with
            | some _ => match rd1 σ ix with
              | .val (.int _) i => if ti.agg = false ∧ ti.ty = .list (.list e) then (if 0 ≤ (i : Int) ∧ (i : Int) < (List.length xs : Int) then k (wr σ o.dst (.cs false [.ept p (.list e) i 0])) else none) else none
              | _ => none
            | none => none
          | _ => opK0 T env o σ k
        | _ => opK0 T env o σ k
      | false => opK0 T env o σ k
    | none => match x with
      | .global gn => match vtOf gn lay with
        | some q => match rd1 σ ix with
          | .val (.int _) i => if q.t = t then (if 0 ≤ (i : Int) ∧ (i : Int) < (List.length q.xs : Int) then k (wr σ o.dst (.cs false [.vpt q.e (at_ q.xs i)])) else none) else none
          | _ => none
        | none => none
      | _ => none
  | .load t x => match T t with
    | some ti => match ti.hot with
      | true => match rd1 σ x with
        | .ept p e' i f => match gl σ p with
          | .hol _ e xs j oq => if f = 0 ∧ ti.agg = false ∧ ti.ty = .list e ∧ e' = .list e then
              bcond (decide (i = j)) (match oq with | some q => k (wr σ o.dst (.cs false [.al q])) | none => none) (k (wr σ o.dst (.cs false [.val (.list e) (at_ (e := .list e) xs i)])))
            else none
          | _ => opK0 T env o σ k
        | _ => opK0 T env o σ k
      | false => opK0 T env o σ k
    | none => opK0 T env o σ k
  | .store t x y => match T t with
    | some ti => match ti.hot with
      | true => match rd1 σ x, rd σ y with
        | .ept p e' i f, (false, [.al q]) => match gl (stl σ p) p, gl (stl σ p) q with
          | .own te (.list e) xs, .own _ e2 _ => if o.dst = none ∧ f = 0 ∧ ti.agg = false ∧ ti.ty = .list e ∧ e' = .list e ∧ e2 = e ∧ q ≠ p then k (sl (stl σ p) p (.hol te e xs i (some q))) else none
          | .hol te e xs j none, .own _ e2 _ => if o.dst = none ∧ f = 0 ∧ ti.agg = false ∧ ti.ty = .list e ∧ e' = .list e ∧ e2 = e ∧ q ≠ p then (if i = j then k (sl (stl σ p) p (.hol te e xs i (some q))) else none) else none
          | _, _ => opK0 T env o (stl σ p) k
        | .ept p _ _ _, _ => opK0 T env o (stl σ p) k
        | _, _ => opK0 T env o σ k
      | false => opK0 T env o σ k
    | none => opK0 T env o σ k
  | .slice t x lo hi none => match T t with
    | some ti => match ti.hot with
      | true => match rd1 σ x with
        | .al p => match gl σ p with
          | .own te e xs => if ti.agg = false ∧ ti.ty = .list e ∧ (T ti.el).isSome = true then (match lo, hi with
            | some y, none => match natAt σ (some y) 0 with
              | some l => if 0 ≤ l ∧ l < (List.length xs : Int) then k (wr σ o.dst (.cs false [.ept p e l (e.sz + 1)])) else none
              | none => none
            | none, some y => match natAt σ (some y) 0 with
              | some u => if 0 ≤ u ∧ u ≤ (List.length xs : Int) then k (wr (sl (mapL (killP p) σ) p .und) o.dst (.cs false [.own te e (List.take u.toNat xs)])) else none
              | none => none
            | _, _ => none) else none
          | _ => opK0 T env o σ k
        | _ => opK0 T env o σ k
      | false => opK0 T env o σ k
    | none => opK0 T env o σ k
  | .call c => match c.callee with
    | .builtin .clear => match c.args.toList, c.argTypes.toList with
      | [x], [t] => match T t with
        | some ti => match rd1 σ x with
          | .ept p e i f => match gl σ p, T ti.el with
            | .own te e' xs, some ei => if h : e' = e then (if o.dst = none ∧ f = e.sz + 1 ∧ ti.agg = false ∧ ti.ty = .list e ∧ ei.ty = e then k (sl σ p (.own te e (List.take i.toNat (h ▸ xs : List e.den) ++ List.replicate (List.length xs - i.toNat) e.zero))) else none) else none
            | _, _ => none
          | _ => none
        | none => none
      | _, _ => none
    | .builtin .append => match c.args.toList, c.argTypes.toList with
      | x :: _, t :: _ => match T t with
        | some ti => match ti.hot with
          | true => opK0 T env o (stlL σ (rd1 σ x)) k
          | false => opK0 T env o σ k
        | none => opK0 T env o σ k
      | _, _ => opK0 T env o σ k
    | _ => opK0 T env o σ k
  | .range t x => match rd1 σ x with
    | .val .str a => if isTy T t .str = true then k (wr σ o.dst (.itr a 0 [])) else none
    | _ => none
  | .next x true => match x, o.dst with
    | .tmp t, some d => match gs σ t with
      | .itr a i _ => if t = d then none else
        bcond (decide ((i : Int) < (List.length a : Int)))
          (k (wr (ss σ t (.itr a (i + (udec a i).2) [])) (some d) (.tup [(false, 1), (false, 1), (false, 1)] [.val .bool true, .val (.int .i64) (i : Int), .val (.int .i32) ((udec a i).1 : Int)])))
          (k (wr σ (some d) (.tup [(false, 1)] [.val .bool false])))
      | _ => none
    | _, _ => none
  | _ => opK0 T env o σ k
/-- What an operation does: the place that is given up (`tk`), the slot `d` that is written; the slots and the places that are read, as they are; what is written. -/
inductive Mo where
  | ret (s : Slot)
  | iff (c : Prop) (d : Decidable c) (s : Slot)
  | bnd (R : Type) (x : Option R) (f : R → Slot)
def Mo.opt : Mo → Option Slot
  | .ret s => some s
  | .iff c d s => @ite _ c d (some s) none
  | .bnd _ x f => x.map f
def Mo.bind {A : Type} (m : Mo) (k : Slot → Option A) : Option A := match m with
  | .ret s => k s
  | .iff c d s => @ite _ c d (k s) none
  | .bnd _ x f => x.bind fun r => k (f r)
theorem Mo.bind_eq {A : Type} (m : Mo) (k : Slot → Option A) : m.bind k = m.opt.bind k := by
  cases m with
  | ret s => rfl
  | iff c d s => unfold Mo.bind Mo.opt; simp only; split <;> rfl
  | bnd R x f => cases x <;> rfl
structure Actn where
  tk : Option Pl
  d : Nat
  rs : List (Nat × Slot)
  rp : List (Pl × Leaf)
  mo : Mo
  rb : List Nat
def Actn.m (A : Actn) : Option Slot := A.mo.opt
def tkS (tk : Option Pl) (σ : St) : St := match tk with
  | none => σ
  | some p => sl (mapL (killP p) σ) p .und
def app (tk : Option Pl) (d : Nat) (s : Slot) (σ : St) : St := wr (tkS tk σ) (some d) s
def leadsL (d : Nat) : Leaf → Bool
  | .al p => p.t == d
  | .ptr b _ => b == d
  | .ept p _ _ _ => p.t == d
  | .clo _ bs => bs.contains d
  | .hol _ _ _ _ (some q) => q.t == d
  | _ => false
def leadsP (p : Pl) : Leaf → Bool
  | .al q => q == p
  | .ept q _ _ _ => q == p
  | .hol _ _ _ _ (some q) => q == p
  | _ => false
def leadsT (tk : Option Pl) (l : Leaf) : Bool := match tk with
  | none => false
  | some p => leadsP p l
def isUnd : Leaf → Bool
  | .und => true
  | .hol _ _ _ _ none => true
  | _ => false
/-- What `A` reads is left alone by an action at `tk`, `d`. -/
def noT (tk : Option Pl) (d : Nat) (A : Actn) : Bool :=
  A.rs.all (fun e => e.1 != d && (match tk with | none => true | some p => p.t != e.1) && e.2.leaves.all fun l => !leadsT tk l && !leadsL d l && !isUnd l) &&
  A.rp.all (fun e => e.1.t != d && (match tk with | none => true | some p => p != e.1) && !leadsT tk e.2 && !leadsL d e.2 && !isUnd e.2) && A.rb.all (fun t => t != d)
/-- Actions that do not touch each other; `s1`, `s2`: what they write. -/
def indep (A1 : Actn) (s1 : Slot) (A2 : Actn) (s2 : Slot) : Bool :=
  A1.d != A2.d && noT A1.tk A1.d A2 && noT A2.tk A2.d A1 &&
  (match A1.tk with | none => true | some p => p.t != A1.d && p.t != A2.d) && (match A2.tk with | none => true | some p => p.t != A2.d && p.t != A1.d) &&
  (match A1.tk, A2.tk with | some p, some q => p != q | _, _ => true) &&
  s1.leaves.all (fun l => !leadsT A2.tk l && !leadsL A2.d l) && s2.leaves.all (fun l => !leadsT A1.tk l && !leadsL A1.d l)
def opS (σ : St) : Operand → List (Nat × Slot)
  | .tmp t => match gs σ t with
    | .box _ => []
    | s => [(t, s)]
  | _ => []
def opB (σ : St) : Operand → List Nat
  | .tmp t => match gs σ t with
    | .box _ => [t]
    | _ => []
  | _ => []
def notAl : Leaf → Bool
  | .al _ => false
  | _ => true
def plP (σ : St) : Leaf → List (Pl × Leaf)
  | .al p => [(p, gl σ p)]
  | _ => []
def isV : PK → Bool
  | .v .. => true
  | _ => false
def boxP (σ : St) (b o : Nat) (n : Nat) : List (Pl × Leaf) := (List.range n).map fun i => (⟨b, o + i⟩, gl σ ⟨b, o + i⟩)
def bits (c : Prop) [h : Decidable c] (s : Slot) : Mo := .iff c h s
/-- What an operation does to the slots, for some operations. -/
def actO (T : TypeId → Option TI) (env : Env) (d : Nat) (op : Op) (σ : St) : Option Actn :=
  match op with
  | .move x => some ⟨none, d, opS σ x, [], .ret (rdS σ x), opB σ x⟩
  | .fieldAddr t x i => match field? T t i with
    | some (f, fi) => match rd1 σ x with
      | .ptr b o => some ⟨none, d, opS σ x, [], .ret (.cs false [.ptr b (o + f)]), opB σ x⟩
      | .vpt t' y => match subTy t' y f fi.ty with
        | some l => some ⟨none, d, opS σ x, [], .ret (.cs false [l]), opB σ x⟩
        | none => none
      | _ => none
    | none => none
  | .indexAddr t x ix => match T t with
    | some ti => if ti.agg then none else match ti.ty with
      | .list et => match T ti.el with
        | some ei => match rd1 σ ix with
          | .val (.int _) i => match rd1 σ x with
            | .val (.list e) xs => if e = et then some ⟨none, d, opS σ x ++ opS σ ix, [], bits (0 ≤ (i : Int) ∧ (i : Int) < (List.length xs : Int)) (.cs false [.vpt e (at_ xs i)]), opB σ x ++ opB σ ix⟩ else none
            | .al p => match gl σ p with
              | .own _ e xs => if e = et then some ⟨none, d, opS σ x ++ opS σ ix, [(p, gl σ p)], bits (0 ≤ (i : Int) ∧ (i : Int) < (List.length xs : Int)) (.cs false [.ept p e i 0]), opB σ x ++ opB σ ix⟩ else none
              | _ => none
            | _ => none
          | _ => none
        | none => none
      | _ => none
    | none => none
  | .load t x => match T t with
    | some ti => match rd1 σ x with
      | .ptr b o => if o + ti.ty.sz ≤ (gs σ b).leaves.length then some ⟨none, d, opS σ x, boxP σ b o ti.ty.sz, .ret (.cs ti.agg (view b o (ltake ti.ty.sz (ldrop o (gs σ b).leaves)))), opB σ x⟩ else none
      | .ept p e i o => match rowOf σ e (.al p) with
        | some xs => if o + ti.ty.sz ≤ e.sz then some ⟨none, d, opS σ x, [(p, gl σ p)], .ret (.cs ti.agg (ltake ti.ty.sz (ldrop o (explode e (at_ xs i))))), opB σ x⟩ else none
        | none => none
      | .vpt t' y => if t' = ti.ty then some ⟨none, d, opS σ x, [], .ret (.cs ti.agg (explode t' y)), opB σ x⟩ else none
      | _ => none
    | none => none
  | .buildSlice t len parts => match T t with
    | some ti => match T ti.el with
      | some ei => if ti.agg = true ∨ ti.ty ≠ .list ei.ty ∨ 16777216 < len * ei.ty.sz ∨ parts.toList.all (fun q => (rd σ q.2).2.all notAl) = false then none else
        match fillE ei.ty (frParts ei.agg parts.toList σ).2 (List.replicate len ei.ty.zero) with
        | some xs => some ⟨none, d, parts.toList.flatMap fun q => opS σ q.2, [], .ret (.cs false [.own ti.el ei.ty xs]), parts.toList.flatMap fun q => opB σ q.2⟩
        | none => none
      | none => none
    | none => none
  | .makeSlice t l c => match T t with
    | some ti => if ti.agg then none else match ti.ty with
      | .list _ => match T ti.el with
        | some ei => match rd1 σ l, rd1 σ c with
          | .val (.int _) n, .val (.int _) m => some ⟨none, d, opS σ l ++ opS σ c, [], bits (0 ≤ (n : Int) ∧ (n : Int) = m ∧ (n : Int) * ei.bytes ≤ 140737488355328 ∧ (n : Int) ≤ 140737488355328) (.cs false [.own ti.el ei.ty (List.replicate (Int.toNat n) ei.ty.zero)]), opB σ l ++ opB σ c⟩
          | _, _ => none
        | none => none
      | _ => none
    | none => none
  | .call c => match c.callee with
    | .builtin .len => match c.args.toList, c.argTypes.toList with
      | [x], [t] => match T t with
        | none => none
        | some ti => if ti.agg then none else match ti.ty with
          | .list _ => match rd1 σ x with
            | .val (.list _) xs => some ⟨none, d, opS σ x, [], .ret (.cs false [.val (.int .i64) (List.length xs : Int)]), opB σ x⟩
            | _ => none
          | _ => none
      | _, _ => none
    | .builtin .append => match c.args.toList, c.argTypes.toList with
      | [x, y], [t, t'] => match T t with
        | some ti => match T ti.el with
          | some ei => if t' = t ∧ ti.agg = false ∧ ti.ty = .list ei.ty ∧ 0 < ei.bytes then (match rowOf σ ei.ty (rd1 σ y) with
            | some ys => match rd1 σ x with
              | .al p => if (rd1 σ y).isAl p then none else match gl σ p with
                | .own te e xs => if te = ti.el then (if h : e = ei.ty then some ⟨some p, d, opS σ x ++ opS σ y, (p, gl σ p) :: plP σ (rd1 σ y), bits ((List.length (h ▸ xs : List ei.ty.den) + ys.length) * ei.bytes ≤ 140737488355328) (.cs false [.own ti.el ei.ty ((h ▸ xs) ++ ys)]), opB σ x ++ opB σ y⟩ else none) else none
                | _ => none
              | .nils => some ⟨none, d, opS σ x ++ opS σ y, plP σ (rd1 σ y), bits (ys.length * ei.bytes ≤ 140737488355328) (.cs false [.own ti.el ei.ty ys]), opB σ x ++ opB σ y⟩
              | _ => none
            | none => none) else none
          | none => none
        | none => none
      | _, _ => none
    | .value x => match rd1 σ x with
      | .clo f [] => match findF f (c.args.toList.map (rd σ)) env with
        | none => none
        | some F => if F.s.ps.all isV = true ∧ F.s.bs.isEmpty = true ∧ c.args.toList.all (fun y => (rd σ y).2.all notAl) = true then
            match gather F.s.scalar F.s.ps (c.args.toList.map (rd σ)) σ [] with
            | none => none
            | some (_, xs, m) => match takeBoxes m F.s.bs 0 σ with
              | none => none
              | some (_, bs) => some ⟨none, d, opS σ x ++ c.args.toList.flatMap (opS σ), [], .bnd _ (F.F xs bs) fun r => outSlot F.s.rs r.1, opB σ x ++ c.args.toList.flatMap (opB σ)⟩
          else none
      | _ => none
    | _ => none
  | _ => none
/-- The same, for operations that `actO` leaves out: rows with a hole (`hits`: the slots that a load out of the hole writes), numbers. -/
def actH (T : TypeId → Option TI) (d : Nat) (op : Op) (σ : St) : Option Actn :=
  match op with
  | .indexAddr t x ix => match T t with
    | some ti => match ti.hot with
      | true => match rd1 σ x with
        | .al p => match gl σ p with
          | .hol _ e xs _ _ => match T ti.el with
            | some _ => match rd1 σ ix with
              | .val (.int _) i => if ti.agg = false ∧ ti.ty = .list (.list e) then some ⟨none, d, opS σ x ++ opS σ ix, [(p, gl σ p)], bits (0 ≤ (i : Int) ∧ (i : Int) < (List.length xs : Int)) (.cs false [.ept p (.list e) i 0]), opB σ x ++ opB σ ix⟩ else none
              | _ => none
            | none => none
          | _ => none
        | _ => none
      | false => none
    | none => none
  | .load t x => match T t with
    | some ti => match ti.hot with
      | true => match rd1 σ x with
        | .ept p e' i f => match gl σ p with
          | .hol _ e xs j oq => if f = 0 ∧ ti.agg = false ∧ ti.ty = .list e ∧ e' = .list e then
              (match ti.hits.contains d, oq with
              | true, some q => some ⟨none, d, opS σ x, [(p, gl σ p)], bits (i = j) (.cs false [.al q]), opB σ x⟩
              | true, none => none
              | false, _ => some ⟨none, d, opS σ x, [(p, gl σ p)], bits (¬ i = j) (.cs false [.val (.list e) (at_ (e := .list e) xs i)]), opB σ x⟩)
            else none
          | _ => none
        | _ => none
      | false => none
    | none => none
  | .binOp op t x y _ => match rd σ x, rd σ y with
    | (false, [.val (.int kk) a]), (false, [.val (.int kk') b]) =>
      if okk op kk kk' = true then match op with
        | .quo => none
        | .rem => none
        | _ => match binInt op kk a b with
          | some l => some ⟨none, d, opS σ x ++ opS σ y, [], .ret (.cs false [l]), opB σ x ++ opB σ y⟩
          | none => none
      else none
    | _, _ => none
  | .convert src dst x => match T src, T dst, rd1 σ x with
    | some si, some ti, .val (.int _) a => match si.ty, ti.ty with
      | .int _, .int kk => if ti.agg = true ∨ si.agg = true then none else some ⟨none, d, opS σ x, [], .ret (.cs false [.val (.int kk) (kk.wrap a)]), opB σ x⟩
      | _, _ => none
    | _, _, _ => none
  | .call c => match c.callee with
    | .builtin .min => match c.args.toList with
      | [x, y] => match rd1 σ x, rd1 σ y with
        | .val (.int kk) a, .val (.int _) b => some ⟨none, d, opS σ x ++ opS σ y, [], .ret (.cs false [.val (.int kk) (if (b : Int) < a then b else a)]), opB σ x ++ opB σ y⟩
        | _, _ => none
      | _ => none
    | _ => none
  | _ => none
def actX (T : TypeId → Option TI) (env : Env) (d : Nat) (op : Op) (σ : St) : Option Actn := match actO T env d op σ with
  | some A => some A
  | none => actH T d op σ
/-- A number in a slot is now known. -/
def know (σ : St) (t : Nat) (b : Bool) : St := ss σ t (.cs false [.val .bool b])
def dstOf (ops : List Oper) (j : Nat) : Option Nat := match ops[j]? with
  | some o => o.dst
  | none => none
/-- The same, of an operation that may be left out. -/
def act (T : TypeId → Option TI) (env : Env) (ops : List Oper) (o : Oper) (σ : St) : Option Actn := match o.dst with
  | none => none
  | some d => match o.guard with
    | none => actX T env d o.op σ
    | some (j, want) => match dstOf ops j with
      | none => none
      | some t => match gs σ t with
        | .cs false [.no] => some ⟨none, d, [(t, gs σ t)], [], .ret (.cs false [.no]), []⟩
        | .cs false [.val .bool v] => match v == want with
          | true => (actX T env d o.op σ).map fun A => { A with rs := (t, gs σ t) :: A.rs }
          | false => some ⟨none, d, [(t, gs σ t)], [], .ret (.cs false [.no]), []⟩
        | _ => none
def msk : List Nat → Nat
  | [] => 0
  | t :: l => Nat.lor (msk l) (Nat.pow 2 t)
/-- The operations that are to come before `o`. -/
def depM (o : Oper) : Nat := msk ((o.after.toList.filter fun e => Region.binds .any e).map (·.on))
/-- Those that wait for `i`. -/
def dmask (i : Nat) : List Oper → Nat → Nat → Nat
  | [], _, D => D
  | o :: os, j, D => dmask i os (j + 1) (cond (Nat.beq (Nat.land (depM o) (Nat.lor D (Nat.pow 2 i))) 0) D (Nat.lor D (Nat.pow 2 j)))
def regK (T : TypeId → Option TI) (env : Env) (ops : List Oper) : List Oper → St → (St → Option A) → Option A
  | [], σ, k => k σ
  | o :: rest, σ, k => match o.guard with
    | none => opK T env o σ fun σ1 => regK T env ops rest σ1 k
    | some (j, want) => match dstOf ops j with
      | none => none
      | some t => match gs σ t with
        | .cs false [.no] => regK T env ops rest (wr σ o.dst (.cs false [.no])) k
        | .cs false [.val .bool v] =>
          bcond (v == want) (opK T env o (know σ t want) fun σ1 => regK T env ops rest σ1 k)
            (regK T env ops rest (wr (know σ t (!want)) o.dst (.cs false [.no])) k)
        | _ => none
/-- Two ways lead to the same. -/
noncomputable def agree (x y : Option A) : Option A := open Classical in if x = y then x else none
theorem agree_self (x : Option A) : agree x x = x := by unfold agree; rw [if_pos rfl]
theorem agree_some {x y : Option A} {r : A} (h : agree x y = some r) : x = some r ∧ y = some r := by
  unfold agree at h
  split at h
  · rename_i e; exact ⟨h, e ▸ h⟩
  · cases h
/-- Orders in which operations may come up: one comes first, or one of several does. -/
inductive Ord where
  | nil
  | st (i : Nat) (t : Ord)
  | alt (i : Nat) (t : Ord) (u : Ord)
  | grp (l : List Nat) (t : Ord)
/-- Operations one by one that may come up in any order, as none of them touches another. -/
noncomputable def regG (T : TypeId → Option TI) (env : Env) (ops : List Oper) (k : St → Option A) : List Nat → List (Nat × Actn × Slot) → St → Option A
  | [], _, σ => k σ
  | i :: is, done, σ => match ops[i]? with
    | some o => match act T env ops o σ with
      | some a => a.mo.bind fun s => match (a.rp.all (fun e => !isUnd e.2) && (match a.tk with | none => true | some p => p.t != a.d)) && done.all (fun e => (dmask e.1 ops 0 0).testBit i || indep e.2.1 e.2.2 a s) with
        | true => regG T env ops k is (done ++ [(i, a, s)]) (app a.tk a.d s σ)
        | false => none
      | none => none
    | none => none
/-- Operations in these orders. -/
noncomputable def regO (T : TypeId → Option TI) (env : Env) (ops : List Oper) : Ord → St → (St → Option A) → Option A
  | .nil, σ, k => k σ
  | .st i t, σ, k => match ops[i]? with
    | some o => regK T env ops [o] σ fun σ1 => regO T env ops t σ1 k
    | none => none
  | .alt i t u, σ, k => match ops[i]? with
    | some o => agree (regK T env ops [o] σ fun σ1 => regO T env ops t σ1 k) (regO T env ops u σ k)
    | none => none
  | .grp l t, σ, k => regG T env ops (fun σ1 => regO T env ops t σ1 k) l [] σ
/-- What is kept of the slots at a loop's head: a slot, and those of its leaves that are owned rows there. -/
abbrev Keep := List (Nat × List (Nat × TypeId × Ty))
def dropL (keep : Keep) : Leaf → Leaf
  | .al p => if (keep.lookup p.t).isSome then .al p else .und
  | .ptr b o => if (keep.lookup b).isSome then .ptr b o else .und
  | .ept .. => .und
  | .vpt .. => .und
  | .clo f bs => if bs.all (fun b => (keep.lookup b).isSome) then .clo f bs else .und
  | .hol te e xs i q => .hol te e xs i (oqf (fun r => (keep.lookup r.t).isNone) q)
  | l => l
def coer (os : List (Nat × TypeId × Ty)) : Nat → List Leaf → List Leaf
  | _, [] => []
  | i, .nils :: ls => (match os.lookup i with | some e => .own e.1 e.2 [] | none => .nils) :: coer os (i + 1) ls
  | i, l :: ls => l :: coer os (i + 1) ls
noncomputable def scrubK (keep : Keep) (σ : St) (l : Keep) : Tr :=
  List.rec (motive := fun _ => Tr) .e (fun e _ ih => ssT ih e.1 ((gs σ e.1).with (coer e.2 0 ((gs σ e.1).leaves.map (dropL keep))))) l
noncomputable def scrub0 (keep : Keep) (σ : St) : St := St.rec (motive := fun _ => St) (fun n tr => ⟨n, scrubK keep ⟨n, tr⟩ keep⟩) σ
/-- Holes of what is kept are filled by what isn't kept. -/
def stlK (keep : Keep) (t : Nat) : Nat → List Leaf → St → St
  | _, [], σ => σ
  | i, .hol _ _ _ _ (some q) :: ls, σ => stlK keep t (i + 1) ls (match (keep.lookup q.t).isSome with | true => σ | false => stl σ ⟨t, i⟩)
  | i, _ :: ls, σ => stlK keep t (i + 1) ls σ
def stlS (keep : Keep) : Keep → St → St
  | [], σ => σ
  | e :: l, σ => stlS keep l (stlK keep e.1 0 (gs σ e.1).leaves σ)
noncomputable def scrub (hot : Bool) (keep : Keep) (σ : St) : St := match hot with
  | true => scrub0 keep (stlS keep keep σ)
  | false => scrub0 keep σ
def loopK (body : St → (St → Option A) → Option A) (hot : Bool) (keep : Keep) : Nat → St → Option A
  | 0, _ => none
  | n + 1, σ => body σ fun σ1 => loopK body hot keep n (scrub hot keep σ1)
def nloops : Code → Nat
  | .seq a b => nloops a + nloops b
  | .cond _ a b => nloops a + nloops b
  | .block _ b => nloops b
  | .loop b => nloops b + 1
  | _ => 0
/-- What is told of a function's regions: orders; what is kept of the slots as a region begins. -/
structure RegT where
  os : List (Nat × Ord)
  js : List (Nat × Keep)
  hot : Bool
noncomputable def regX (T : TypeId → Option TI) (env : Env) (os : RegT) (id : Nat) (ops : Array Oper) (draw : Bool) (σ : St) (kn : St → Option A) : Option A := match draw with
  | false => regK T env ops.toList ops.toList σ kn
  | true => match os.os.lookup id with
    | some t => regO T env ops.toList t σ kn
    | none => none
/-- A region that several ways lead to. -/
noncomputable def regJ (T : TypeId → Option TI) (env : Env) (os : RegT) (id : Nat) (ops : Array Oper) (draw : Bool) (σ : St) (kn : St → Option A) : Option A := regX T env os id ops draw σ kn
noncomputable def exec (T : TypeId → Option TI) (env : Env) (os : RegT) (n : Nat) : Code → List Keep → St → (St → Option A) → (Nat → St → Option A) → (St → Option A) → Option A
  | .skip, _, σ, kn, _, _ => kn σ
  | .region id ops draw, _, σ, kn, _, _ => match os.js.lookup id with
    | some keep => regJ T env os id ops draw (scrub os.hot keep σ) kn
    | none => regX T env os id ops draw σ kn
  | .seq a b, hs, σ, kn, kx, kr => exec T env os n a hs σ (fun σ1 => exec T env os n b (hs.drop (nloops a)) σ1 kn kx kr) kx kr
  | .cond c a b, hs, σ, kn, kx, kr => match rd1 σ c with
    | .val .bool v => match c with
      | .tmp t => bcond v (exec T env os n a hs (know σ t true) kn kx kr) (exec T env os n b (hs.drop (nloops a)) (know σ t false) kn kx kr)
      | _ => bcond v (exec T env os n a hs σ kn kx kr) (exec T env os n b (hs.drop (nloops a)) σ kn kx kr)
    | _ => none
  | .block id b, hs, σ, kn, kx, kr => exec T env os n b hs σ kn (fun i σ1 => if i = id then kn σ1 else kx i σ1) kr
  | .loop b, hs, σ, _, kx, kr => loopK (fun σ k => exec T env os n b hs.tail σ k kx kr) os.hot (hs.headD []) n (scrub os.hot (hs.headD []) σ)
  | .exit id, _, σ, _, kx, _ => kx id σ
  | .ret, _, σ, _, _, kr => kr σ
  | _, _, _, _, _, _ => none
def Slot.isB : Slot → Bool
  | .box _ => true
  | _ => false
/-- What a function hands back. -/
def retL (e : List LK) : List Leaf → St → Option (St × HL e) :=
  match e with
  | [] => fun ls σ => match ls with
    | [] => some (σ, ())
    | _ => none
  | .fr t :: ks => fun ls σ =>
    let r := freezeL (ltake t.sz ls) σ
    match implode t r.2 with
    | some x => match retL ks (ldrop t.sz ls) r.1 with
      | some (σ2, xs) => some (σ2, x, xs)
      | none => none
    | none => none
  | .ow te e :: ks => fun ls σ =>
    match takeOwn σ te e (lget ls 0) with
    | some (σ1, x) => match retL ks (ldrop 1 ls) σ1 with
      | some (σ2, xs) => some (σ2, x, xs)
      | none => none
    | none => none
  | .oo _ _ :: _ => fun _ _ => none
def retR (T : TypeId → Option TI) : (rs : List (Bool × List LK)) → List ResultVar → St → Option (St × BL (rs.map (·.2)))
  | [], [], σ => some (σ, ())
  | (a, ks) :: rs, .tmp t :: vs, σ =>
    let r := rd σ (.tmp t)
    if r.1 = a then match retL ks r.2 σ with
      | some (σ1, x) => match retR T rs vs σ1 with
        | some (σ2, xs) => some (σ2, x, xs)
        | none => none
      | none => none
    else none
  | (a, ks) :: rs, .cell t ty :: vs, σ => match T ty with
    | some ti => if (gs σ t).isB = true ∧ ti.agg = a ∧ (gs σ t).leaves.length = ti.ty.sz then match retL ks (view t 0 (gs σ t).leaves) σ with
      | some (σ1, x) => match retR T rs vs σ1 with
        | some (σ2, xs) => some (σ2, x, xs)
        | none => none
      | none => none
      else none
    | none => none
  | _, _, _ => none
def boxMap (n : Nat) : Nat → List (List LK) → List (Nat × Nat)
  | _, [] => []
  | i, _ :: bs => (i, n + i) :: boxMap n (i + 1) bs
def joinB : (bs : List (List LK)) → {ws : List (List LK)} → BL bs → BL ws → BL (bs ++ ws)
  | [], _, _, z => z
  | _ :: bs, _, y, z => (y.1, joinB bs y.2 z)
theorem split_join : ∀ (bs : List (List LK)) {ws : List (List LK)} (y : BL bs) (z : BL ws), splitB bs (joinB bs y z) = (y, z)
  | [], _, _, _ => rfl
  | _ :: bs, _, y, z => by simp only [joinB, splitB, split_join bs y.2 z]
/-- Rows that were written in place are handed back. -/
def takeWs : Nat → (ps : List PK) → St → Option (St × BL (ps.flatMap PK.wk))
  | _, [], σ => some (σ, ())
  | nv, .v _ _ :: ps, σ => takeWs nv ps σ
  | nv, .o _ _ :: ps, σ => takeWs nv ps σ
  | nv, .p _ :: ps, σ => takeWs nv ps σ
  | nv, .f _ _ :: ps, σ => takeWs nv ps σ
  | nv, .w te e :: ps, σ => match gs σ nv with
    | .vb ls => match takeOwn σ te e (lget (view nv 0 ls) 0) with
      | some (σ1, x) => match takeWs (nv + 1) ps σ1 with
        | some (σ2, xs) => some (σ2, (x, ()), xs)
        | none => none
      | none => none
    | _ => none
def retK0 (T : TypeId → Option TI) (s : Sig) (fn : Func) (σ : St) : Option s.Out :=
  if (boxMap fn.ntmps 0 s.bs).all (fun q => (gs σ q.2).isB) = true then match takeWs (fn.ntmps + s.bs.length) s.ps σ with
  | some (σ0, z) => match retR T s.rs fn.results.toList σ0 with
    | some (σ1, x) => match takeBoxes (boxMap fn.ntmps 0 s.bs) s.bs 0 σ1 with
      | some (_, y) => some (x, joinB s.bs y z)
      | none => none
    | none => none
  | none => none
  else none
/-- Holes in what is handed back are filled. -/
def stlLs : List Leaf → St → St
  | [], σ => σ
  | l :: ls, σ => stlLs ls (stlL σ l)
def retS : List ResultVar → St → St
  | [], σ => σ
  | .tmp t :: vs, σ => retS vs (stlLs (rd σ (.tmp t)).2 σ)
  | .cell t _ :: vs, σ => retS vs (stlLs (view t 0 (gs σ t).leaves) σ)
def retK (T : TypeId → Option TI) (s : Sig) (fn : Func) (σ : St) : Option s.Out := retK0 T s fn (retS fn.results.toList σ)
/-- The slots of a call as it begins. -/
def argS (n : Nat) : (nv : Nat) → (ps : List PK) → HL (ps.flatMap PK.lk) → List Slot
  | _, [], _ => []
  | nv, .v a t :: ps, x => .cs a (explode t x.1) :: argS n nv ps x.2
  | nv, .o te e :: ps, x => .cs false [.own te e x.1] :: argS n nv ps x.2
  | nv, .p b :: ps, x => .cs false [.ptr (n + b) 0] :: argS n nv ps x
  | nv, .f g bs :: ps, x => .cs false [.clo g (bs.map (n + ·))] :: argS n nv ps x
  | nv, .w _ _ :: ps, x => .cs false [.al ⟨nv, 0⟩] :: argS n (nv + 1) ps x.2
/-- The slots of the rows that are written in place. -/
def wS : (ps : List PK) → HL (ps.flatMap PK.lk) → List Slot
  | [], _ => []
  | .v _ _ :: ps, x => wS ps x.2
  | .o _ _ :: ps, x => wS ps x.2
  | .p _ :: ps, x => wS ps x
  | .f _ _ :: ps, x => wS ps x
  | .w te e :: ps, x => .vb [.own te e x.1] :: wS ps x.2
def boxS : (bs : List (List LK)) → BL bs → List Slot
  | [], _ => []
  | b :: bs, x => .box (outL b x.1) :: boxS bs x.2
noncomputable def start (s : Sig) (fn : Func) (x : HL s.ins) (y : BL s.bs) : St := ⟨fn.ntmps + s.bs.length + s.ws.length, putT (fn.ntmps + s.bs.length) (wS s.ps x) (putT fn.ntmps (boxS s.bs y) (putT 0 (argS fn.ntmps (fn.ntmps + s.bs.length) s.ps x) .e))⟩
/-- A function of the program, with values alone; `n`: a bound on the rounds of each loop. -/
noncomputable def run (T : TypeId → Option TI) (env : Env) (os : RegT) (s : Sig) (fn : Func) (hs : List Keep) (n : Nat) (x : HL s.ins) (y : BL s.bs) : Option s.Out :=
  match fn.body with
  | some c => exec T env os n c hs (start s fn x y) (retK T s fn) (fun _ _ => none) (retK T s fn)
  | none => none
end
end
end Go.Ev
namespace Go.Ev
set_option linter.unusedVariables false
set_option linter.unusedSimpArgs false
theorem lget_of_le : ∀ {ls : List Leaf} {i : Nat}, ls.length ≤ i → lget ls i = .und
  | [], _, _ => rfl
  | _ :: ls, 0, h => by simp at h
  | _ :: ls, i + 1, h => lget_of_le (ls := ls) (i := i) (by simpa using h)
theorem lget_map (f : Leaf → Leaf) (hf : f .und = .und) : ∀ (ls : List Leaf) (i : Nat), lget (ls.map f) i = f (lget ls i)
  | [], _ => hf.symm
  | _ :: ls, 0 => rfl
  | _ :: ls, i + 1 => lget_map f hf ls i
theorem lget_lset : ∀ (ls : List Leaf) (i j : Nat) (x : Leaf), lget (lset ls i x) j = if i = j ∧ j < ls.length then x else lget ls j
  | [], i, j, x => by simp [lset, lget]
  | _ :: ls, 0, 0, x => by simp [lset, lget]
  | _ :: ls, 0, j + 1, x => by simp [lset, lget]
  | _ :: ls, i + 1, 0, x => by simp [lset, lget]
  | _ :: ls, i + 1, j + 1, x => by simp [lset, lget, lget_lset ls i j x]
@[simp] theorem length_lset : ∀ (ls : List Leaf) (i : Nat) (x : Leaf), (lset ls i x).length = ls.length
  | [], _, _ => rfl
  | _ :: ls, 0, _ => rfl
  | _ :: ls, i + 1, x => by simp [lset, length_lset ls i x]
theorem lget_eq_getElem? : ∀ (ls : List Leaf) (i : Nat), lget ls i = (ls[i]?).getD .und
  | [], _ => by simp [lget]
  | _ :: ls, 0 => by simp [lget]
  | _ :: ls, i + 1 => by simp [lget, lget_eq_getElem? ls i]
theorem gsT_s (l r : Tr) (s : Slot) (m : Nat) : gsT (.n l s r) (m + 1) = if m % 2 = 0 then gsT l (m / 2) else gsT r (m / 2) := by
  show Nat.rec (motive := fun _ => Slot) (gsT l (m / 2)) (fun _ _ => gsT r (m / 2)) (m % 2) = _
  generalize m % 2 = k
  cases k <;> rfl
theorem sing_s (s : Slot) (f m : Nat) : sing s (f + 1) (m + 1) = if m % 2 = 0 then .n (sing s f (m / 2)) nones .e else .n .e nones (sing s f (m / 2)) := by
  show Nat.rec (motive := fun _ => Tr) (.n (sing s f (m / 2)) nones .e) (fun _ _ => .n .e nones (sing s f (m / 2))) (m % 2) = _
  generalize m % 2 = k
  cases k <;> rfl
theorem ssT_s (l r : Tr) (x s : Slot) (m : Nat) : ssT (.n l x r) (m + 1) s = if m % 2 = 0 then .n (ssT l (m / 2) s) x r else .n l x (ssT r (m / 2) s) := by
  show Nat.rec (motive := fun _ => Tr) (.n (ssT l (m / 2) s) x r) (fun _ _ => .n l x (ssT r (m / 2) s)) (m % 2) = _
  generalize m % 2 = k
  cases k <;> rfl
theorem gsT_e (t : Nat) : gsT .e t = nones := rfl
theorem ssT_0 (l r : Tr) (x s : Slot) : ssT (.n l x r) 0 s = .n l s r := rfl
theorem gsT_sing (s : Slot) : ∀ (f t u : Nat), t ≤ f → gsT (sing s f t) u = if t = u then s else nones
  | 0, t, u, h => by
    obtain rfl : t = 0 := by omega
    cases u with
    | zero => rfl
    | succ u =>
      show gsT (.n .e s .e) (u + 1) = _
      rw [gsT_s, gsT_e, if_neg (show ¬ 0 = u + 1 by omega)]
      split <;> rfl
  | f + 1, 0, u, h => by
    cases u with
    | zero => rfl
    | succ u =>
      show gsT (.n .e s .e) (u + 1) = _
      rw [gsT_s, gsT_e, if_neg (show ¬ 0 = u + 1 by omega)]
      split <;> rfl
  | f + 1, t + 1, u, h => by
    have ih := gsT_sing s f (t / 2)
    rw [sing_s]
    cases u with
    | zero =>
      rw [if_neg (show ¬ t + 1 = 0 by omega)]
      split <;> rfl
    | succ u =>
      by_cases h1 : t % 2 = 0
      · rw [if_pos h1, gsT_s, gsT_e, ih _ (by omega)]
        by_cases h2 : u % 2 = 0
        · rw [if_pos h2]
          by_cases e : t = u
          · rw [if_pos (by omega), if_pos (by omega)]
          · rw [if_neg (by omega), if_neg (by omega)]
        · rw [if_neg h2, if_neg (by omega)]
      · rw [if_neg h1, gsT_s, gsT_e, ih _ (by omega)]
        by_cases h2 : u % 2 = 0
        · rw [if_pos h2, if_neg (by omega)]
        · rw [if_neg h2]
          by_cases e : t = u
          · rw [if_pos (by omega), if_pos (by omega)]
          · rw [if_neg (by omega), if_neg (by omega)]
theorem gsT_ssT : ∀ (tr : Tr) (t u : Nat) (s : Slot), gsT (ssT tr t s) u = if t = u then s else gsT tr u
  | .e, t, u, s => gsT_sing s t t u (Nat.le_refl _)
  | .n l x r, 0, u, s => by
    rw [ssT_0]
    cases u with
    | zero => rfl
    | succ u => rw [gsT_s, gsT_s, if_neg (show ¬ 0 = u + 1 by omega)]
  | .n l x r, t + 1, u, s => by
    have il := gsT_ssT l (t / 2)
    have ir := gsT_ssT r (t / 2)
    rw [ssT_s]
    cases u with
    | zero =>
      rw [if_neg (show ¬ t + 1 = 0 by omega)]
      split <;> rfl
    | succ u =>
      by_cases h1 : t % 2 = 0
      · rw [if_pos h1, gsT_s, gsT_s, il]
        by_cases h2 : u % 2 = 0
        · rw [if_pos h2, if_pos h2]
          by_cases e : t = u
          · rw [if_pos (by omega), if_pos (by omega)]
          · rw [if_neg (by omega), if_neg (by omega)]
        · rw [if_neg h2, if_neg h2, if_neg (by omega)]
      · rw [if_neg h1, gsT_s, gsT_s, ir]
        by_cases h2 : u % 2 = 0
        · rw [if_pos h2, if_pos h2, if_neg (by omega)]
        · rw [if_neg h2, if_neg h2]
          by_cases e : t = u
          · rw [if_pos (by omega), if_pos (by omega)]
          · rw [if_neg (by omega), if_neg (by omega)]
theorem gs_if (σ : St) (t : Nat) : gs σ t = if t < σ.length then gsT σ.tr t else nones := by
  show cond (Nat.blt t σ.len) (gsT σ.tr t) nones = if t < σ.len then gsT σ.tr t else nones
  by_cases h : t < σ.len
  · have : Nat.blt t σ.len = true := by simpa [Nat.blt_eq] using h
    rw [this, if_pos h]; rfl
  · have : Nat.blt t σ.len = false := by
      cases hb : Nat.blt t σ.len with
      | false => rfl
      | true => exact absurd (by simpa [Nat.blt_eq] using hb) h
    rw [this, if_neg h]; rfl
theorem gs_ss (σ : St) (t u : Nat) (s : Slot) : gs (ss σ t s) u = if t = u ∧ u < σ.length then s else gs σ u := by
  have e : gs (ss σ t s) u = if u < σ.length then gsT (ssT σ.tr t s) u else nones := gs_if (ss σ t s) u
  rw [e, gs_if σ u, gsT_ssT]
  by_cases h : u < σ.length
  · by_cases h2 : t = u <;> simp [h, h2]
  · simp [h]
@[simp] theorem length_ss (σ : St) (t : Nat) (s : Slot) : (ss σ t s).length = σ.length := rfl
theorem gs_of_le {σ : St} {t : Nat} (h : σ.length ≤ t) : gs σ t = nones := by
  rw [gs_if, if_neg (by omega)]
theorem gsT_putT : ∀ (l : List Slot) (i : Nat) (tr : Tr) (t : Nat), gsT (putT i l tr) t = if i ≤ t ∧ t < i + l.length then gsL l (t - i) else gsT tr t
  | [], i, tr, t => by
    rw [if_neg (by simp only [List.length_nil]; omega)]; rfl
  | s :: l, i, tr, t => by
    show gsT (putT (i + 1) l (ssT tr i s)) t = _
    rw [gsT_putT l (i + 1), gsT_ssT, List.length_cons]
    by_cases h : i = t
    · subst h
      rw [if_neg (by omega), if_pos rfl, if_pos (by omega), Nat.sub_self]; rfl
    · by_cases h2 : i ≤ t ∧ t < i + (l.length + 1)
      · obtain ⟨k, hk⟩ : ∃ k, t = i + (k + 1) := ⟨t - i - 1, by omega⟩
        subst hk
        rw [if_pos (by omega), if_pos (by omega), show i + (k + 1) - (i + 1) = k by omega, show i + (k + 1) - i = k + 1 by omega]; rfl
      · rw [if_neg (by omega), if_neg h, if_neg h2]
@[simp] theorem leaves_with (s : Slot) (ls : List Leaf) : (s.with ls).leaves = ls := by cases s <;> rfl
theorem gsT_mapT (f : Leaf → Leaf) (hf : f .und = .und) : ∀ (tr : Tr) (t : Nat), gsT (mapT f tr) t = (gsT tr t).with ((gsT tr t).leaves.map f)
  | .e, t => by
    show nones = nones.with (nones.leaves.map f)
    simp [nones, Slot.with, Slot.leaves, hf]
  | .n l s r, 0 => rfl
  | .n l s r, t + 1 => by
    show gsT (.n (mapT f l) (s.with (s.leaves.map f)) (mapT f r)) (t + 1) = _
    rw [gsT_s, gsT_s, gsT_mapT f hf l, gsT_mapT f hf r]
    split <;> rfl
theorem gs_mapL (f : Leaf → Leaf) (hf : f .und = .und) (σ : St) (t : Nat) : gs (mapL f σ) t = (gs σ t).with ((gs σ t).leaves.map f) := by
  have e : gs (mapL f σ) t = if t < σ.length then gsT (mapT f σ.tr) t else nones := gs_if (mapL f σ) t
  rw [e, gs_if σ t, gsT_mapT f hf]
  by_cases h : t < σ.length
  · rw [if_pos h, if_pos h]
  · rw [if_neg h, if_neg h]
    simp [nones, Slot.with, Slot.leaves, hf]
@[simp] theorem length_mapL (f : Leaf → Leaf) (σ : St) : (mapL f σ).length = σ.length := rfl
@[simp] theorem length_sl (σ : St) (p : Pl) (l : Leaf) : (sl σ p l).length = σ.length := by simp [sl]
theorem gl_mapL (f : Leaf → Leaf) (hf : f .und = .und) (σ : St) (p : Pl) : gl (mapL f σ) p = f (gl σ p) := by
  simp [gl, gs_mapL f hf, lget_map f hf]
/-- There is such a leaf. -/
def Vp (σ : St) (p : Pl) : Prop := p.t < σ.length ∧ p.i < (gs σ p.t).leaves.length
theorem vp_of_ne {σ : St} {p : Pl} (h : gl σ p ≠ .und) : Vp σ p := by
  constructor
  · apply Nat.lt_of_not_le
    intro hn
    apply h
    unfold gl
    rw [gs_of_le hn]
    cases hp : p.i <;> simp [nones, Slot.leaves, lget]
  · apply Nat.lt_of_not_le
    intro hn
    exact h (lget_of_le hn)
theorem gl_sl {σ : St} {p : Pl} (q : Pl) (l : Leaf) (h : Vp σ p) : gl (sl σ p l) q = if p = q then l else gl σ q := by
  obtain ⟨t, i⟩ := p
  obtain ⟨u, j⟩ := q
  obtain ⟨h1, h2⟩ := h
  simp only [gl, sl, gs_ss, Pl.mk.injEq] at *
  by_cases h : t = u
  · subst h
    simp only [h1, and_self, if_true, leaves_with, lget_lset, true_and]
    by_cases hj : i = j
    · subst hj; simp [h2]
    · simp [hj]
  · simp [h]
theorem gs_sl (σ : St) (p : Pl) (l : Leaf) (t : Nat) : gs (sl σ p l) t = if p.t = t ∧ t < σ.length then (gs σ t).with (lset (gs σ t).leaves p.i l) else gs σ t := by
  simp only [sl, gs_ss]
  split
  · rename_i h; rw [h.1]
  · rfl
/-- A slot without what its leaves are. -/
inductive Shp where
  | cs (agg : Bool) (n : Nat)
  | box (n : Nat)
  | tup (ks : List (Bool × Nat)) (n : Nat)
  | itr (s : List UInt8) (i : Nat) (n : Nat)
  | vb (n : Nat)
  deriving DecidableEq
def Slot.shp : Slot → Shp
  | .cs a ls => .cs a ls.length
  | .box ls => .box ls.length
  | .tup ks ls => .tup ks ls.length
  | .itr s i ls => .itr s i ls.length
  | .vb ls => .vb ls.length
theorem shp_with (s : Slot) (ls : List Leaf) (h : ls.length = s.leaves.length) : (s.with ls).shp = s.shp := by
  cases s <;> simp_all [Slot.with, Slot.shp, Slot.leaves]
theorem shp_mapL (f : Leaf → Leaf) (hf : f .und = .und) (σ : St) (t : Nat) : (gs (mapL f σ) t).shp = (gs σ t).shp := by
  rw [gs_mapL f hf, shp_with]; simp
theorem shp_sl (σ : St) (p : Pl) (l : Leaf) (t : Nat) : (gs (sl σ p l) t).shp = (gs σ t).shp := by
  rw [gs_sl]; split
  · rw [shp_with]; simp
  · rfl
def Shp.isBox : Shp → Bool
  | .box _ => true
  | .itr _ _ _ => true
  | _ => false
/-- A box of cells. -/
def Shp.isB : Shp → Bool
  | .box _ => true
  | _ => false
def Shp.len : Shp → Nat
  | .cs _ n => n
  | .box n => n
  | .tup _ n => n
  | .itr _ _ n => n
  | .vb n => n
theorem leaves_len (s : Slot) : s.leaves.length = s.shp.len := by cases s <;> rfl
/-- The cells of a plain value; what it leads to lies in blocks of `S`. -/
def rel (w : World) (S : Nat → Prop) : (t : Ty) → t.den → List Value → Prop
  | .int k, x, cs => cs = [.int k x]
  | .bool, b, cs => cs = [.bool b]
  | .str, l, cs => cs = [.string ⟨l.toArray⟩]
  | .pair a b, x, cs => ∃ c1 c2, cs = c1 ++ c2 ∧ rel w S a x.1 c1 ∧ rel w S b x.2 c2
  | .list e, xs, cs => ∃ A cap, cs = [.slice A (List.length xs) cap] ∧ List.length xs ≤ cap ∧ (xs = [] ∨ ∃ b o, A = some ⟨b, o, none⟩ ∧ S b ∧
      ∀ (i : Nat) (x : e.den), xs[i]? = some x → ∃ c, rel w S e x c ∧ ∀ j u, c[j]? = some u → w.cell? ⟨b, o + (i * e.sz + j), none⟩ = some u)
theorem rel_len {w : World} {S : Nat → Prop} : ∀ {t : Ty} {x : t.den} {cs : List Value}, rel w S t x cs → cs.length = t.sz
  | .int _, _, _, h => by simp only [rel] at h; subst h; rfl
  | .bool, _, _, h => by simp only [rel] at h; subst h; rfl
  | .str, _, _, h => by simp only [rel] at h; subst h; rfl
  | .pair a b, x, _, h => by
    simp only [rel] at h
    obtain ⟨c1, c2, rfl, h1, h2⟩ := h
    simp [Ty.sz, rel_len h1, rel_len h2]
  | .list e, _, _, h => by
    simp only [rel] at h
    obtain ⟨A, cap, rfl, _⟩ := h
    rfl
theorem rel_one {w : World} {S : Nat → Prop} : ∀ {t : Ty} {x : t.den} {cs : List Value}, rel w S t x cs → ∀ u ∈ cs, u.oneCell' = true
  | .int _, _, _, h => by simp only [rel] at h; subst h; simp [Value.oneCell']
  | .bool, _, _, h => by simp only [rel] at h; subst h; simp [Value.oneCell']
  | .str, _, _, h => by simp only [rel] at h; subst h; simp [Value.oneCell']
  | .pair a b, x, _, h => by
    simp only [rel] at h
    obtain ⟨c1, c2, rfl, h1, h2⟩ := h
    intro u hu
    rcases List.mem_append.1 hu with hu | hu
    · exact rel_one h1 u hu
    · exact rel_one h2 u hu
  | .list e, _, _, h => by
    simp only [rel] at h
    obtain ⟨A, cap, rfl, _⟩ := h
    simp [Value.oneCell']
/-- The world changes outside of `S`, and `S` grows. -/
theorem rel_mono {w w' : World} {S S' : Nat → Prop} (hS : ∀ b, S b → S' b) (hw : ∀ b, S b → w'.heap[b]? = w.heap[b]?) :
    ∀ {t : Ty} {x : t.den} {cs : List Value}, rel w S t x cs → rel w' S' t x cs
  | .int _, _, _, h => h
  | .bool, _, _, h => h
  | .str, _, _, h => h
  | .pair a b, x, _, h => by
    simp only [rel] at h ⊢
    obtain ⟨c1, c2, e, h1, h2⟩ := h
    exact ⟨c1, c2, e, rel_mono hS hw h1, rel_mono hS hw h2⟩
  | .list e, _, _, h => by
    simp only [rel] at h ⊢
    obtain ⟨A, cap, e1, e2, h3⟩ := h
    refine ⟨A, cap, e1, e2, ?_⟩
    rcases h3 with h3 | ⟨b, o, hA, hb, h4⟩
    · exact .inl h3
    · refine .inr ⟨b, o, hA, hS b hb, fun i x hx => ?_⟩
      obtain ⟨c, hc, hcell⟩ := h4 i x hx
      refine ⟨c, rel_mono hS hw hc, fun j u hu => ?_⟩
      rw [← hcell j u hu]
      exact World.cell?_of_block (hw b hb)
/-- The cells of a row's elements. -/
def rows (w : World) (S : Nat → Prop) (e : Ty) : List e.den → List Value → Prop
  | [], vs => vs = []
  | x :: xs, vs => ∃ c r, vs = c ++ r ∧ rel w S e x c ∧ rows w S e xs r
theorem rows_len {w : World} {S : Nat → Prop} {e : Ty} : ∀ {xs : List e.den} {vs : List Value}, rows w S e xs vs → vs.length = xs.length * e.sz
  | [], vs, h => by simp only [rows] at h; subst h; simp
  | x :: xs, vs, h => by
    simp only [rows] at h
    obtain ⟨c, r, rfl, h1, h2⟩ := h
    rw [List.length_append, rel_len h1, rows_len h2, List.length_cons, Nat.add_mul]
    omega
theorem rows_one {w : World} {S : Nat → Prop} {e : Ty} : ∀ {xs : List e.den} {vs : List Value}, rows w S e xs vs → ∀ u ∈ vs, u.oneCell' = true
  | [], vs, h => by simp only [rows] at h; subst h; simp
  | x :: xs, vs, h => by
    simp only [rows] at h
    obtain ⟨c, r, rfl, h1, h2⟩ := h
    intro u hu
    rcases List.mem_append.1 hu with hu | hu
    · exact rel_one h1 u hu
    · exact rows_one h2 u hu
theorem rows_mono {w w' : World} {S S' : Nat → Prop} (hS : ∀ b, S b → S' b) (hw : ∀ b, S b → w'.heap[b]? = w.heap[b]?) {e : Ty} :
    ∀ {xs : List e.den} {vs : List Value}, rows w S e xs vs → rows w' S' e xs vs
  | [], vs, h => h
  | x :: xs, vs, h => by
    simp only [rows] at h ⊢
    obtain ⟨c, r, e1, h1, h2⟩ := h
    exact ⟨c, r, e1, rel_mono hS hw h1, rows_mono hS hw h2⟩
theorem rows_append {w : World} {S : Nat → Prop} {e : Ty} : ∀ {xs ys : List e.den} {vs us : List Value}, rows w S e xs vs → rows w S e ys us → rows w S e (xs ++ ys) (vs ++ us)
  | [], ys, vs, us, h, h' => by simp only [rows] at h; subst h; simpa using h'
  | x :: xs, ys, vs, us, h, h' => by
    simp only [rows] at h
    obtain ⟨c, r, rfl, h1, h2⟩ := h
    simp only [List.cons_append, rows]
    exact ⟨c, r ++ us, by simp, h1, rows_append h2 h'⟩
/-- Element `i` of a row. -/
theorem rows_get {w : World} {S : Nat → Prop} {e : Ty} : ∀ {xs : List e.den} {vs : List Value}, rows w S e xs vs → ∀ (i : Nat) (x : e.den), xs[i]? = some x →
    ∃ c, rel w S e x c ∧ (∀ j u, c[j]? = some u → vs[i * e.sz + j]? = some u)
  | [], _, _, i, x, hx => by simp at hx
  | y :: xs, vs, h, 0, x, hx => by
    simp only [rows] at h
    obtain ⟨c, r, rfl, h1, h2⟩ := h
    simp at hx
    subst hx
    refine ⟨c, h1, fun j u hu => ?_⟩
    have hj := (List.getElem?_eq_some_iff.1 hu).1
    rw [Nat.zero_mul, Nat.zero_add, List.getElem?_append_left hj]
    exact hu
  | y :: xs, vs, h, i + 1, x, hx => by
    simp only [rows] at h
    obtain ⟨c, r, rfl, h1, h2⟩ := h
    simp at hx
    obtain ⟨d, hd, hcell⟩ := rows_get h2 i x hx
    refine ⟨d, hd, fun j u hu => ?_⟩
    rw [List.getElem?_append_right (by rw [rel_len h1, Nat.add_mul]; omega), rel_len h1, show (i + 1) * e.sz + j - e.sz = i * e.sz + j from by rw [Nat.add_mul]; omega]
    exact hcell j u hu
theorem rows_set {w : World} {S : Nat → Prop} {e : Ty} : ∀ {xs : List e.den} {vs : List Value}, rows w S e xs vs → ∀ (i : Nat) (x : e.den) (c : List Value), i < xs.length → rel w S e x c →
    rows w S e (xs.set i x) (vs.take (i * e.sz) ++ c ++ vs.drop (i * e.sz + e.sz))
  | [], _, _, i, x, c, hi, _ => by simp at hi
  | y :: xs, vs, h, 0, x, c, _, hc => by
    simp only [rows] at h
    obtain ⟨d, r, rfl, h1, h2⟩ := h
    simp only [List.set_cons_zero, rows]
    refine ⟨c, r, ?_, hc, h2⟩
    simp [← rel_len h1]
  | y :: xs, vs, h, i + 1, x, c, hi, hc => by
    simp only [rows] at h
    obtain ⟨d, r, rfl, h1, h2⟩ := h
    simp only [List.set_cons_succ, rows]
    refine ⟨d, _, ?_, h1, rows_set h2 i x c (by simpa using hi) hc⟩
    have hd := rel_len h1
    rw [show (i + 1) * e.sz = e.sz + i * e.sz from by rw [Nat.add_mul]; omega, ← hd]
    simp [List.take_append, List.drop_append, Nat.add_assoc]
    rw [List.take_of_length_le (by omega), List.drop_eq_nil_of_le (by omega)]
    simp
/-- A row that is owned. -/
def ownR (w : World) (S : Nat → Prop) (te : TypeId) (e : Ty) (xs : List e.den) (v : Value) : Prop :=
  ∃ vs, rows w S e xs vs ∧ w.ownsRow 0 te e.sz v xs.length vs
theorem ownR_mono {w w' : World} {S S' : Nat → Prop} (hS : ∀ b, S b → S' b) (hw : ∀ b, S b → w'.heap[b]? = w.heap[b]?) {te : TypeId} {e : Ty} {xs : List e.den} {v : Value}
    (hb : ∀ b, v.ownBlock = some b → w'.heap[b]? = w.heap[b]?) (h : ownR w S te e xs v) : ownR w' S' te e xs v := by
  obtain ⟨vs, hr, ho, hc⟩ := h
  refine ⟨vs, rows_mono hS hw hr, ho, ?_⟩
  rcases hc with h | ⟨g, cap, cur, rfl, h0, hg, rest⟩
  · exact .inl h
  · exact .inr ⟨g, cap, cur, rfl, h0, by rw [hb g (by simp [Value.ownBlock])]; exact hg, rest⟩
theorem ownR_nil (w : World) (S : Nat → Prop) (te : TypeId) (e : Ty) : ownR w S te e [] (.slice none 0 0) := ⟨[], rfl, by simp, .inl ⟨rfl, rfl⟩⟩
theorem ownR_lt {w : World} {S : Nat → Prop} {te : TypeId} {e : Ty} {xs : List e.den} {v : Value} (h : ownR w S te e xs v) {b : Nat} (hb : v.ownBlock = some b) : b < w.heap.size := by
  obtain ⟨vs, hr, ho⟩ := h
  exact (ho.lt b hb).2
/-- A row that is owned; element `i` is told elsewhere. -/
def holR (w : World) (S : Nat → Prop) (te : TypeId) (e : Ty) (xs : List (List e.den)) (i : Int) (u : Option Value) (v : Value) : Prop :=
  0 ≤ i ∧ i < (xs.length : Int) ∧ ∃ vs : List Value, vs.length = xs.length ∧ (∀ (j : Nat) (x : List e.den), j ≠ i.toNat → xs[j]? = some x → ∃ c, vs[j]? = some c ∧ rel w S (.list e) x [c]) ∧
    (∀ x, u = some x → vs[i.toNat]? = some x) ∧ w.ownsRow 0 te 1 v xs.length vs
theorem holR_mono {w w' : World} {S S' : Nat → Prop} (hS : ∀ b, S b → S' b) (hw : ∀ b, S b → w'.heap[b]? = w.heap[b]?) {te : TypeId} {e : Ty} {xs : List (List e.den)} {i : Int} {u u' : Option Value} {v : Value}
    (hu : ∀ x, u' = some x → u = some x) (hb : ∀ b, v.ownBlock = some b → w'.heap[b]? = w.heap[b]?) (h : holR w S te e xs i u v) : holR w' S' te e xs i u' v := by
  obtain ⟨h1, h2, vs, h3, h4, h5, ho, hc⟩ := h
  refine ⟨h1, h2, vs, h3, fun j x hj hx => ?_, fun x hx => h5 x (hu x hx), ho, ?_⟩
  · obtain ⟨c, c1, c2⟩ := h4 j x hj hx
    exact ⟨c, c1, rel_mono hS hw c2⟩
  · rcases hc with h | ⟨g, cap, cur, rfl, h0, hg, rest⟩
    · exact .inl h
    · exact .inr ⟨g, cap, cur, rfl, h0, by rw [hb g (by simp [Value.ownBlock])]; exact hg, rest⟩
theorem holR_lt {w : World} {S : Nat → Prop} {te : TypeId} {e : Ty} {xs : List (List e.den)} {i : Int} {u : Option Value} {v : Value} (h : holR w S te e xs i u v) {b : Nat} (hb : v.ownBlock = some b) : b < w.heap.size := by
  obtain ⟨_, _, vs, _, _, _, ho⟩ := h
  exact (ho.lt b hb).2
/-- Rows of rows, element by element. -/
theorem rows_pt {w : World} {S : Nat → Prop} {e : Ty} {xs : List (List e.den)} {vs : List Value} (h : rows w S (.list e) xs vs) : vs.length = xs.length ∧ ∀ (j : Nat) (x : List e.den), xs[j]? = some x → ∃ c, vs[j]? = some c ∧ rel w S (.list e) x [c] := by
  refine ⟨by rw [rows_len h]; show _ * 1 = _; omega, fun j x hx => ?_⟩
  obtain ⟨c, c1, c2⟩ := rows_get h j x hx
  obtain ⟨v, rfl⟩ := List.length_eq_one_iff.1 (show c.length = 1 from rel_len c1)
  have := c2 0 v rfl
  exact ⟨v, by simpa [Ty.sz] using this, c1⟩
theorem pt_rows {w : World} {S : Nat → Prop} {e : Ty} : ∀ {xs : List (List e.den)} {vs : List Value}, vs.length = xs.length → (∀ (j : Nat) (x : List e.den), xs[j]? = some x → ∃ c, vs[j]? = some c ∧ rel w S (.list e) x [c]) → rows w S (.list e) xs vs
  | [], vs, h, _ => List.eq_nil_of_length_eq_zero h
  | x :: xs, [], h, _ => by simp at h
  | x :: xs, v :: vs, h, hp => by
    obtain ⟨c, c1, c2⟩ := hp 0 x rfl
    simp only [List.getElem?_cons_zero, Option.some.injEq] at c1
    subst c1
    exact ⟨[v], vs, rfl, c2, pt_rows (by simpa using h) (fun j x hx => by simpa using hp (j + 1) x (by simpa using hx))⟩
/-- The hole is filled. -/
theorem ownR_of_holR {w : World} {S : Nat → Prop} {te : TypeId} {e : Ty} {xs : List (List e.den)} {i : Int} {u v : Value} {ys : List e.den} (h : holR w S te e xs i (some u) v) (hu : rel w S (.list e) ys [u]) : ownR w S te (.list e) (xs.set i.toNat ys) v := by
  obtain ⟨h1, h2, vs, h3, h4, h5, ho⟩ := h
  refine ⟨vs, pt_rows (by simpa using h3) (fun j x hx => ?_), by rw [List.length_set]; exact ho⟩
  rw [List.getElem?_set] at hx
  split at hx
  · rename_i hj
    split at hx
    · injection hx with hx
      subst hx hj
      exact ⟨u, h5 u rfl, hu⟩
    · cases hx
  · rename_i hj
    exact h4 j x (Ne.symm hj) hx
/-- The form of an owned row's value. -/
theorem ownR_form {w : World} {S : Nat → Prop} {te : TypeId} {e : Ty} {xs : List e.den} {v : Value} (h : ownR w S te e xs v) :
    (v = .slice none 0 0 ∧ xs = []) ∨ ∃ g cap cur, v = .slice (some ⟨g, 0, none⟩) xs.length cap ∧ w.heap[g]? = some (.cells cur te (0, 0)) ∧ xs.length ≤ cap ∧ cap ≤ maxLen ∧ cur.size = cap * e.sz ∧
      rows w S e xs (cur.toList.take (xs.length * e.sz)) := by
  obtain ⟨vs, hr, ho, hc⟩ := h
  rcases hc with ⟨h1, h2⟩ | ⟨g, cap, cur, rfl, _, hg, h1, h2, h3, h4⟩
  · exact .inl ⟨h1, List.eq_nil_of_length_eq_zero h2⟩
  · exact .inr ⟨g, cap, cur, rfl, hg, h1, h2, h3, by rw [h4]; exact hr⟩
/-- An owned row is read as a plain list. -/
theorem rel_of_ownR {w : World} {S : Nat → Prop} {te : TypeId} {e : Ty} {xs : List e.den} {v : Value} (h : ownR w S te e xs v) {S' : Nat → Prop} (hS : ∀ b, S b → S' b) (hb : ∀ b, v.ownBlock = some b → S' b) :
    rel w S' (.list e) xs [v] := by
  simp only [rel]
  rcases ownR_form h with ⟨rfl, rfl⟩ | ⟨g, cap, cur, rfl, hg, h1, h2, h3, hr⟩
  · exact ⟨none, 0, rfl, Nat.le_refl _, .inl rfl⟩
  · refine ⟨_, cap, rfl, h1, .inr ⟨g, 0, rfl, hb g (by simp [Value.ownBlock]), fun i x hx => ?_⟩⟩
    obtain ⟨c, hc, hcell⟩ := rows_get hr i x hx
    refine ⟨c, rel_mono hS (fun _ _ => rfl) hc, fun j u hu => ?_⟩
    have := hcell j u hu
    rw [List.getElem?_take] at this
    split at this
    · rw [Nat.zero_add, cell_of_row w g _ cur te (0, 0) hg]
      simpa using this
    · cases this
theorem ask_drawn {α : Type} : ∀ (q : Ask α) (w : World), w.drawn ≤ (w.ask q).2.drawn
  | .done a, w => Nat.le_refl _
  | .ask what range k, w => by
    unfold World.ask
    simp only
    split
    · exact ask_drawn _ _
    · exact Nat.le_trans (Nat.le_succ w.drawn) (ask_drawn (k _) { w with drawn := w.drawn + 1 })
theorem sys_drawn (w : World) (c : Sys) : w.drawn ≤ (w.sys c).2.drawn := by
  have h := ask_drawn (Kernel.perform c w.os) w
  unfold World.sys
  split
  · exact Nat.le_refl _
  · rename_i e; rw [e] at h; exact h
theorem viewStore_drawn {p : Program} {w w' : World} {b : Addr} {u : TypeId} {a : Addr} {v : Value} {at_ : Bool} {l : List Addr} (h : w.viewStore p b u a v at_ = .ok (w', l)) : w'.drawn = w.drawn := by
  unfold World.viewStore at h
  simp only [bind, Except.bind, pure, Except.pure, throw, throwThe, MonadExceptOf.throw] at h
  repeat' split at h
  all_goals first
    | (cases h; done)
    | (cases h; rfl)
/-- What is run draws on. -/
theorem drawn_le {P : Program} {α : Type} : ∀ {s : Sem α} {w w' : World} {v : α}, s.run P w = .ok v w' → w.drawn ≤ w'.drawn := by
  intro s
  induction s with
  | pure a => intro w w' v h; simp only [Sem.run, Result.ok.injEq] at h; rw [h.2]; exact Nat.le_refl _
  | load m a k ih =>
    intro w w' v h
    simp only [Sem.run] at h
    split at h
    · exact ih _ h
    · split at h
      · exact ih _ h
      · cases h
  | store m a x k ih =>
    intro w w' v h
    have key : (match w.cell? a with
      | some _ => if w.frozen? a then .halt (.unsupported (.unsafePointer "a write to bytes that a string shares")) w else k.run P (w.setCell a x)
      | none => match w.farStore P a x (m == .atomic) with
        | .ok (w, _) => k.run P w
        | .error h => .halt h w) = Result.ok v w' → w.drawn ≤ w'.drawn := by
      intro h
      split at h
      · split at h
        · cases h
        · exact ih (w := w.setCell a x) h
      · split at h
        · rename_i hf
          have := ih h
          unfold World.farStore at hf
          split at hf
          · split at hf
            · rename_i hv
              injection hf with hf
              subst hf
              rw [← viewStore_drawn hv]; exact this
            · cases hf
          · cases hf
        · cases h
    cases x <;> first | exact key h | (simp [Sem.run] at h)
  | new o k ih => intro w w' v h; exact ih _ (w := { w with heap := w.heap.push o }) h
  | shape r k ih => intro w w' v h; exact ih _ h
  | freeze a n k ih =>
    intro w w' v h
    have := ih h
    unfold World.freeze at this
    split at this <;> exact this
  | frozen a k ih => intro w w' v h; exact ih _ h
  | getObj r k ih =>
    intro w w' v h
    simp only [Sem.run] at h
    split at h
    · cases h
    · exact ih _ h
    · cases h
  | setObj r o k ih =>
    intro w w' v h
    simp only [Sem.run] at h
    split at h
    · cases h
    · exact ih (w := { w with heap := w.heap.setIfInBounds r o }) h
    · cases h
  | choose q k ih =>
    intro w w' v h
    simp only [Sem.run] at h
    split at h
    · exact ih _ h
    · exact Nat.le_trans (Nat.le_succ _) (ih _ (w := { w with drawn := w.drawn + 1 }) h)
  | sys c k ih => intro w w' v h; exact Nat.le_trans (sys_drawn w c) (ih _ h)
  | program k ih => intro w w' v h; exact ih _ h
  | mark m k ih => intro w w' v h; exact ih h
  | halt x => intro w w' v h; cases h
/-- What is told beside the slots: the blocks that are read only; each leaf's value; the block of a slot's box. -/
structure Gh where
  S : Nat → Prop
  c : Pl → Value
  blk : Nat → Nat
  vc : Nat → Value
/-- The package variables that are tables hold them. -/
def Lay (w : World) (S : Nat → Prop) : Prop := ∀ q ∈ lay, S q.g ∧ ∃ us, rows w S q.e q.xs us ∧ ∀ j u, us[j]? = some u → w.cell? ⟨q.g, j, none⟩ = some u
theorem Lay.mono {w w' : World} {S S' : Nat → Prop} (h : Lay w S) (hS : ∀ b, S b → S' b) (hw : ∀ b, S b → w'.heap[b]? = w.heap[b]?) : Lay w' S' := fun q hq => by
  obtain ⟨h1, us, h2, h3⟩ := h q hq
  refine ⟨hS _ h1, us, rows_mono hS hw h2, fun j u hu => ?_⟩
  rw [← h3 j u hu]
  simp only [World.cell?, hw _ h1]
/-- What stays the same as a function runs. -/
structure Ctx where
  w0 : World
  S0 : Nat → Prop
  M : Nat → Prop
  N : Nat
  bk : Nat → Nat
  vc : Nat → Value
  lay : Lay w0 S0
  apart : ∀ b, S0 b → b < w0.heap.size ∧ ¬ M b
def isBox (σ : St) (t : Nat) : Prop := (gs σ t).shp.isBox = true
/-- What leads to a row's element `i`: a pointer to its cell `o`; beyond its cells: the row from there on. -/
def eptV (gb n cap : Nat) (e : Ty) (i : Int) (o : Nat) : Value := if o ≤ e.sz then .pointer (some ⟨gb, i.toNat * e.sz + o, none⟩) else .slice (some ⟨gb, i.toNat * e.sz, none⟩) (n - i.toNat) (cap - i.toNat)
theorem eptV_ptr {gb n cap : Nat} {e : Ty} {i : Int} {o : Nat} (h : o ≤ e.sz) : eptV gb n cap e i o = .pointer (some ⟨gb, i.toNat * e.sz + o, none⟩) := if_pos h
/-- A leaf tells this value. -/
def LR (σ : St) (w : World) (g : Gh) : Leaf → Value → Prop
  | .val t x, v => rel w g.S t x [v]
  | .own te e xs, v => ownR w g.S te e xs v
  | .hol te e xs i q, v => holR w g.S te e xs i (q.map g.c) v ∧ ∀ r, q = some r → ∃ n, rowTy (gl σ r) = some (e, n)
  | .al q, v => v = g.c q ∧ (gl σ q).isOwn = true
  | .nils, v => v = .slice none 0 0
  | .ptr b o, v => v = .pointer (some ⟨g.blk b, o, none⟩) ∧ isBox σ b
  | .ept q e i o, v => (∃ n : Nat, rowTy (gl σ q) = some (e, n) ∧ 0 ≤ i ∧ i < (n : Int)) ∧ ∃ gb n cap, g.c q = .slice (some ⟨gb, 0, none⟩) n cap ∧ v = eptV gb n cap e i o
  | .vpt t x, v => ∃ b o cs, v = .pointer (some ⟨b, o, none⟩) ∧ g.S b ∧ rel w g.S t x cs ∧ ∀ j u, cs[j]? = some u → w.cell? ⟨b, o + j, none⟩ = some u
  | .clo f bs, v => v = .func (.func f) #[] (bs.map fun b => .pointer (some ⟨g.blk b, 0, none⟩)).toArray ∧ ∀ b ∈ bs, isBox σ b
  | .cst u, v => v = u ∧ u.oneCell' = true
  | .no, v => v = undef
  | .und, _ => True
def cellsL (g : Gh) (t n : Nat) : List Value := (List.range n).map fun i => g.c ⟨t, i⟩
def tupR : List (Bool × Nat) → List Value → List Value → Prop
  | [], vs, cs => vs = [] ∧ cs = []
  | (a, n) :: ks, vs, cs => ∃ v vs' c cs', vs = v :: vs' ∧ cs = c ++ cs' ∧ c.length = n ∧ (a = true ∧ v = .agg c.toArray ∨ a = false ∧ c = [v]) ∧ tupR ks vs' cs'
/-- A slot's shape fits the machine's slot (and the memory of its box). -/
def SR (N : Nat) (w : World) (a : Array Value) (g : Gh) (t : Nat) : Shp → Prop
  | .cs false n => n = 1 ∧ a.getD t undef = g.c ⟨t, 0⟩
  | .cs true n => a.getD t undef = .agg (cellsL g t n).toArray
  | .box n => (t < N → a.getD t undef = .pointer (some ⟨g.blk t, 0, none⟩)) ∧ ∃ te, w.heap[g.blk t]? = some (.cells (cellsL g t n).toArray te (0, 0))
  | .tup ks n => ∃ vs, a.getD t undef = .tuple vs.toArray ∧ tupR ks vs (cellsL g t n)
  | .itr s i n => n = 0 ∧ (t < N → a.getD t undef = .pointer (some ⟨g.blk t, 0, none⟩)) ∧ w.heap[g.blk t]? = some (.stringIter ⟨s.toArray⟩ i)
  | .vb n => n = 1 ∧ g.c ⟨t, 0⟩ = g.vc t
/-- The block that is owned by a box, or by a leaf. -/
noncomputable def ob (σ : St) (g : Gh) : Nat ⊕ Pl → Option Nat
  | .inl t => if (gs σ t).shp.isBox then some (g.blk t) else none
  | .inr p => if (gl σ p).isOwn then (g.c p).ownBlock else none
structure Rel (X : Ctx) (σ : St) (a : Act) (w : World) (g : Gh) : Prop where
  size : a.tmps.size = X.N
  defers : a.defers = []
  sh : ∀ t, t < σ.length → SR X.N w a.tmps g t (gs σ t).shp
  lf : ∀ p, LR σ w g (gl σ p) (g.c p)
  inj : ∀ o1 o2 b, ob σ g o1 = some b → ob σ g o2 = some b → o1 = o2
  fr : ∀ o b, ob σ g o = some b → ¬ g.S b ∧ b < w.heap.size ∧ (X.w0.heap.size ≤ b ∨ X.M b)
  sb : ∀ b, g.S b → b < w.heap.size ∧ (X.S0 b ∨ X.M b ∨ X.w0.heap.size ≤ b)
  s0 : ∀ b, X.S0 b → g.S b
  bx : ∀ t, X.N ≤ t → g.blk t = X.bk t
  vcx : g.vc = X.vc
  os : w.os = X.w0.os
  tape : w.tape = X.w0.tape
  drawn : X.w0.drawn ≤ w.drawn
  output : w.output = X.w0.output
  grow : X.w0.heap.size ≤ w.heap.size
  frame : ∀ b, b < X.w0.heap.size → ¬ X.M b → w.heap[b]? = X.w0.heap[b]?
theorem Rel.lay {X : Ctx} {σ : St} {a : Act} {w : World} {g : Gh} (h : Rel X σ a w g) : Lay w g.S :=
  X.lay.mono h.s0 fun b hb => h.frame b (X.apart b hb).1 (X.apart b hb).2
theorem isOwn_iff {l : Leaf} : l.isOwn = true ↔ ∃ e n, rowTy l = some (e, n) := by
  cases l <;> simp [Leaf.isOwn, rowTy]
theorem rowTy_own {l : Leaf} {e : Ty} {n : Nat} (h : rowTy l = some (e, n)) : l.isOwn = true := isOwn_iff.2 ⟨e, n, h⟩
theorem oqf_some {f : Pl → Bool} {q : Option Pl} {r : Pl} (h : oqf f q = some r) : q = some r ∧ f r = false := by
  cases q with
  | none => cases h
  | some p =>
    unfold oqf at h
    simp only at h
    cases hf : f p <;> rw [hf] at h <;> simp at h
    subst h
    exact ⟨rfl, hf⟩
theorem oqf_id {f : Pl → Bool} {q : Option Pl} (h : ∀ r, q = some r → f r = false) : oqf f q = q := by
  cases q with
  | none => rfl
  | some p => simp only [oqf, h p rfl]
theorem rowTy_killL (d : Nat) (l : Leaf) : rowTy (killL d l) = rowTy l := by
  cases l with
  | al q => by_cases h : q.t = d <;> simp [killL, h, rowTy]
  | ptr b o => by_cases h : b = d <;> simp [killL, h, rowTy]
  | ept q e i o => by_cases h : q.t = d <;> simp [killL, h, rowTy]
  | clo f bs => by_cases h : d ∈ bs <;> simp [killL, h, rowTy]
  | _ => rfl
theorem rowTy_killP (p : Pl) (l : Leaf) : rowTy (killP p l) = rowTy l := by
  cases l with
  | al q => by_cases h : q = p <;> simp [killP, h, rowTy]
  | ept q e i o => by_cases h : q = p <;> simp [killP, h, rowTy]
  | _ => rfl
theorem rowTy_mvP (p q : Pl) (l : Leaf) : rowTy (mvP p q l) = rowTy l := by
  cases l with
  | al r => by_cases h : r = p <;> simp [mvP, h, rowTy]
  | ept r e i o => by_cases h : r = p <;> simp [mvP, h, rowTy]
  | _ => rfl
theorem rowTy_frP (p : Pl) (e : Ty) (xs : List e.den) (l : Leaf) : rowTy (frP p e xs l) = rowTy l := by
  cases l with
  | al r => by_cases h : r = p <;> simp [frP, h, rowTy]
  | ept r e i o => by_cases h : r = p <;> simp [frP, h, rowTy]
  | _ => rfl
theorem isOwn_row (l : Leaf) : l.isOwn = (rowTy l).isSome := by cases l <;> rfl
theorem isOwn_killL (d : Nat) (l : Leaf) : (killL d l).isOwn = l.isOwn := by rw [isOwn_row, isOwn_row, rowTy_killL]
theorem isOwn_killP (p : Pl) (l : Leaf) : (killP p l).isOwn = l.isOwn := by rw [isOwn_row, isOwn_row, rowTy_killP]
theorem isOwn_mvP (p q : Pl) (l : Leaf) : (mvP p q l).isOwn = l.isOwn := by rw [isOwn_row, isOwn_row, rowTy_mvP]
theorem isOwn_frP (p : Pl) (e : Ty) (xs : List e.den) (l : Leaf) : (frP p e xs l).isOwn = l.isOwn := by rw [isOwn_row, isOwn_row, rowTy_frP]
/-- A row with a hole, in another state. -/
theorem LR_holF {σ σ' : St} {w w' : World} {g g' : Gh} {f : Pl → Bool} {te : TypeId} {e : Ty} {xs : List (List e.den)} {i : Int} {q : Option Pl} {v : Value} (hS : ∀ b, g.S b → g'.S b) (hw : ∀ b, g.S b → w'.heap[b]? = w.heap[b]?)
    (hb : ∀ b, v.ownBlock = some b → w'.heap[b]? = w.heap[b]?) (hq : ∀ r, q = some r → f r = false → g'.c r = g.c r ∧ ∀ n, rowTy (gl σ r) = some (e, n) → ∃ n', rowTy (gl σ' r) = some (e, n'))
    (h : LR σ w g (.hol te e xs i q) v) : LR σ' w' g' (.hol te e xs i (oqf f q)) v := by
  obtain ⟨h1, h2⟩ := h
  refine ⟨holR_mono hS hw (fun x hx => ?_) hb h1, fun r hr => ?_⟩
  · obtain ⟨r, hr, rfl⟩ := Option.map_eq_some_iff.1 hx
    obtain ⟨hr, hf⟩ := oqf_some hr
    rw [hr, (hq r hr hf).1]; rfl
  · obtain ⟨hr, hf⟩ := oqf_some hr
    obtain ⟨n, hn⟩ := h2 r hr
    exact (hq r hr hf).2 n hn
theorem LR_hol {σ σ' : St} {w w' : World} {g g' : Gh} {te : TypeId} {e : Ty} {xs : List (List e.den)} {i : Int} {q : Option Pl} {v : Value} (hS : ∀ b, g.S b → g'.S b) (hw : ∀ b, g.S b → w'.heap[b]? = w.heap[b]?)
    (hb : ∀ b, v.ownBlock = some b → w'.heap[b]? = w.heap[b]?) (hq : ∀ r, q = some r → g'.c r = g.c r ∧ ∀ n, rowTy (gl σ r) = some (e, n) → ∃ n', rowTy (gl σ' r) = some (e, n'))
    (h : LR σ w g (.hol te e xs i q) v) : LR σ' w' g' (.hol te e xs i q) v := by
  have := LR_holF (f := fun _ => false) (σ' := σ') (g' := g') (w' := w') hS hw hb (fun r hr _ => hq r hr) h
  rwa [oqf_id (fun _ _ => rfl)] at this
/-- The same shapes; each leaf tells its value still; nothing is owned that wasn't. -/
theorem Rel.weak {X : Ctx} {σ σ' : St} {a : Act} {w : World} {g : Gh} (h : Rel X σ a w g) (hl : σ'.length = σ.length) (hs : ∀ t, (gs σ' t).shp = (gs σ t).shp)
    (hlf : ∀ p, LR σ' w g (gl σ' p) (g.c p)) (ho : ∀ p, (gl σ' p).isOwn = true → (gl σ p).isOwn = true) : Rel X σ' a w g := by
  have hob : ∀ o b, ob σ' g o = some b → ob σ g o = some b := by
    intro o b hb
    cases o with
    | inl t => simpa [ob, hs t] using hb
    | inr p =>
      simp only [ob] at hb ⊢
      split at hb
      · rename_i h1; rw [if_pos (ho p h1)]; exact hb
      · cases hb
  exact { h with
    sh := fun t ht => by rw [hs t]; exact h.sh t (by omega)
    lf := hlf
    inj := fun o1 o2 b h1 h2 => h.inj o1 o2 b (hob _ _ h1) (hob _ _ h2)
    fr := fun o b hb => h.fr o b (hob _ _ hb) }
theorem isBox_mapL {f : Leaf → Leaf} (hf : f .und = .und) {σ : St} {b : Nat} : isBox (mapL f σ) b ↔ isBox σ b := by
  unfold isBox; rw [shp_mapL f hf]
theorem isBox_sl {σ : St} {p : Pl} {l : Leaf} {b : Nat} : isBox (sl σ p l) b ↔ isBox σ b := by
  unfold isBox; rw [shp_sl]
end Go.Ev
namespace Go.Ev
set_option linter.unusedVariables false
set_option linter.unusedSimpArgs false
theorem LR_killP {σ : St} {w : World} {g : Gh} {p : Pl} {l : Leaf} {v : Value} (h : LR σ w g l v) : LR (mapL (killP p) σ) w g (killP p l) v := by
  have e : ∀ q, gl (mapL (killP p) σ) q = killP p (gl σ q) := gl_mapL (killP p) rfl σ
  have own : ∀ q, (gl σ q).isOwn = true → (gl (mapL (killP p) σ) q).isOwn = true := fun q hq => by
    rw [e q, isOwn_killP]; exact hq
  cases l with
  | hol te e' xs i q => exact LR_holF (fun _ h => h) (fun _ _ => rfl) (fun _ _ => rfl) (fun r _ _ => ⟨rfl, fun n hn => ⟨n, by rw [e r, rowTy_killP]; exact hn⟩⟩) h
  | al q =>
    simp only [killP]
    split
    · trivial
    · exact ⟨h.1, own q h.2⟩
  | ptr b o => exact ⟨h.1, (isBox_mapL rfl).2 h.2⟩
  | ept q e' i o =>
    simp only [killP]
    split
    · trivial
    · obtain ⟨⟨n, h1, h2⟩, h3⟩ := h
      exact ⟨⟨n, by rw [e q, rowTy_killP]; exact h1, h2⟩, h3⟩
  | clo f bs => exact ⟨h.1, fun b hb => (isBox_mapL rfl).2 (h.2 b hb)⟩
  | _ => exact h
theorem killP_own {p : Pl} {l : Leaf} (h : (killP p l).isOwn = true) : l.isOwn = true := by rw [isOwn_killP] at h; exact h
theorem Rel.killPAll {X : Ctx} {σ : St} {a : Act} {w : World} {g : Gh} (h : Rel X σ a w g) (p : Pl) : Rel X (mapL (killP p) σ) a w g :=
  h.weak (by simp) (shp_mapL _ rfl σ) (fun q => by rw [gl_mapL _ rfl]; exact LR_killP (h.lf q)) (fun q hq => by rw [gl_mapL _ rfl] at hq; exact killP_own hq)
/-- Nothing leads to place `p`. -/
def noP (σ : St) (p : Pl) : Prop := ∀ q, killP p (gl σ q) = gl σ q
theorem killP_killP (p : Pl) (l : Leaf) : killP p (killP p l) = killP p l := by
  cases l with
  | al q => by_cases h : q = p <;> simp [killP, h]
  | ept q e i o => by_cases h : q = p <;> simp [killP, h]
  | hol te e xs i q =>
    show Leaf.hol te e xs i (oqf _ (oqf _ q)) = .hol te e xs i (oqf _ q)
    rw [oqf_id (fun r hr => (oqf_some hr).2)]
  | _ => rfl
theorem noP_killAll (σ : St) (p : Pl) : noP (mapL (killP p) σ) p := fun q => by rw [gl_mapL _ rfl, killP_killP]
/-- Where nothing is owned, nothing leads to. -/
theorem Rel.noP_of {X : Ctx} {σ : St} {a : Act} {w : World} {g : Gh} (h : Rel X σ a w g) {p : Pl} (hp : (gl σ p).isOwn = false) : noP σ p := by
  intro q
  have hq := h.lf q
  generalize gl σ q = l at *
  cases l with
  | al r =>
    simp only [killP]
    split
    · rename_i e; subst e; rw [hq.2] at hp; cases hp
    · rfl
  | ept r e i o =>
    simp only [killP]
    split
    · rename_i e; subst e
      obtain ⟨⟨n, h1, _⟩, _⟩ := hq
      rw [rowTy_own h1] at hp; cases hp
    · rfl
  | hol te e xs i r =>
    show Leaf.hol te e xs i (oqf _ r) = _
    rw [oqf_id]
    intro s hs
    obtain ⟨n, hn⟩ := hq.2 s hs
    refine decide_eq_false (fun e1 => ?_)
    subst e1
    rw [rowTy_own hn] at hp; cases hp
  | _ => rfl
/-- A leaf that isn't read by any other, at a place to which nothing leads, is set; the shape stays. -/
theorem LR_set {σ : St} {w : World} {g : Gh} {p : Pl} {l : Leaf} (hv : Vp σ p) {l' : Leaf} {v : Value} (hk : killP p l' = l') (h : LR σ w g l' v) : LR (sl σ p l) w g l' v := by
  have own : ∀ q, q ≠ p → gl (sl σ p l) q = gl σ q := fun q hq => by rw [gl_sl q l hv, if_neg (Ne.symm hq)]
  cases l' with
  | al q =>
    have hne : q ≠ p := by intro e; subst e; simp [killP] at hk
    exact ⟨h.1, by rw [own q hne]; exact h.2⟩
  | ptr b o => exact ⟨h.1, isBox_sl.2 h.2⟩
  | ept q e' i o =>
    have hne : q ≠ p := by intro e; subst e; simp [killP] at hk
    obtain ⟨⟨n, h1, h2⟩, h3⟩ := h
    exact ⟨⟨n, by rw [own q hne]; exact h1, h2⟩, h3⟩
  | hol te e xs i r =>
    refine LR_hol (fun _ h => h) (fun _ _ => rfl) (fun _ _ => rfl) (fun s hs => ⟨rfl, fun n hn => ⟨n, ?_⟩⟩) h
    have hne : s ≠ p := by
      intro e; subst e hs
      simp [killP, oqf] at hk
    rw [own s hne]; exact hn
  | clo f bs => exact ⟨h.1, fun b hb => isBox_sl.2 (h.2 b hb)⟩
  | _ => exact h
/-- What is owned at a place is let go. -/
theorem Rel.drop {X : Ctx} {σ : St} {a : Act} {w : World} {g : Gh} (h : Rel X σ a w g) {p : Pl} (hv : Vp σ p) : Rel X (sl (mapL (killP p) σ) p .und) a w g := by
  have h1 := h.killPAll p
  have hv1 : Vp (mapL (killP p) σ) p := by
    refine ⟨by simpa using hv.1, ?_⟩
    rw [leaves_len, shp_mapL _ rfl, ← leaves_len]; exact hv.2
  refine h1.weak (by simp) (fun t => shp_sl _ _ _ t) (fun q => ?_) (fun q hq => ?_)
  · rw [gl_sl q _ hv1]
    split
    · trivial
    · exact LR_set hv1 (noP_killAll σ p q) (h1.lf q)
  · rw [gl_sl q _ hv1] at hq
    split at hq
    · cases hq
    · exact hq
theorem xfer_gl {σ : St} {p q : Pl} {te : TypeId} {e : Ty} {xs : List e.den} (hq : gl σ q = .al p) (hp : gl σ p = .own te e xs) (r : Pl) :
    gl (xfer σ q) r = if q = r then .own te e xs else if p = r then .al q else mvP p q (gl σ r) := by
  have e1 : xfer σ q = sl (sl (mapL (mvP p q) σ) p (.al q)) q (.own te e xs) := by unfold xfer; rw [hq]; simp only; rw [hp]
  have vp : Vp (mapL (mvP p q) σ) p := by
    have := vp_of_ne (σ := σ) (p := p) (by rw [hp]; simp)
    refine ⟨by simpa using this.1, ?_⟩
    rw [leaves_len, shp_mapL _ rfl, ← leaves_len]; exact this.2
  have vq : Vp (sl (mapL (mvP p q) σ) p (.al q)) q := by
    have := vp_of_ne (σ := σ) (p := q) (by rw [hq]; simp)
    refine ⟨by simpa using this.1, ?_⟩
    rw [leaves_len, shp_sl, shp_mapL _ rfl, ← leaves_len]; exact this.2
  rw [e1, gl_sl r _ vq, gl_sl r _ vp, gl_mapL _ rfl]
theorem xfer_shp (σ : St) (q : Pl) (t : Nat) : (gs (xfer σ q) t).shp = (gs σ t).shp := by
  unfold xfer
  split
  · split
    · rw [shp_sl, shp_sl, shp_mapL _ rfl]
    · rfl
  · rfl
@[simp] theorem length_xfer (σ : St) (q : Pl) : (xfer σ q).length = σ.length := by
  unfold xfer
  split
  · split <;> simp
  · rfl
theorem Rel.xfer {X : Ctx} {σ : St} {a : Act} {w : World} {g : Gh} (h : Rel X σ a w g) (q : Pl) : Rel X (xfer σ q) a w g := by
  by_cases hc : ¬ ∃ p te e, ∃ xs : List e.den, gl σ q = .al p ∧ gl σ p = .own te e xs
  · have : Ev.xfer σ q = σ := by
      unfold Ev.xfer
      split
      · split
        · exact absurd ⟨_, _, _, _, by assumption, by assumption⟩ hc
        · rfl
      · rfl
    rw [this]; exact h
  obtain ⟨p, te, e, xs, hq, hp⟩ := Classical.not_not.1 hc
  have hne : q ≠ p := by intro e; subst e; rw [hq] at hp; cases hp
  have hgl := xfer_gl hq hp
  have hcq : g.c q = g.c p := by have := h.lf q; rw [hq] at this; exact this.1
  have hbox : ∀ b, isBox (Ev.xfer σ q) b ↔ isBox σ b := fun b => by unfold isBox; rw [xfer_shp]
  have hown : ∀ r, r ≠ p → (gl σ r).isOwn = true → (gl (Ev.xfer σ q) r).isOwn = true := by
    intro r hr ho
    rw [hgl r]
    split
    · rfl
    · rw [if_neg (Ne.symm hr), isOwn_mvP]; exact ho
  have hrow : ∀ r, r ≠ p → r ≠ q → rowTy (gl (Ev.xfer σ q) r) = rowTy (gl σ r) := by
    intro r hr hr2
    rw [hgl r, if_neg (Ne.symm hr2), if_neg (Ne.symm hr), rowTy_mvP]
  have hnq : ∀ {e n}, rowTy (gl σ q) ≠ some (e, n) := by intro e n; rw [hq]; simp [rowTy]
  have hLR : ∀ l v, LR σ w g l v → LR (Ev.xfer σ q) w g (mvP p q l) v := by
    intro l v hl
    cases l with
    | al r =>
      simp only [mvP]
      split
      · rename_i e; subst e
        exact ⟨by rw [hcq]; exact hl.1, by rw [hgl, if_pos rfl]; rfl⟩
      · rename_i e
        exact ⟨hl.1, hown r e hl.2⟩
    | ptr b o => exact ⟨hl.1, (hbox b).2 hl.2⟩
    | ept r e' i o =>
      simp only [mvP]
      obtain ⟨⟨n, h1, h2⟩, h3⟩ := hl
      split
      · rename_i e1; subst e1
        rw [hp] at h1
        exact ⟨⟨n, by rw [hgl, if_pos rfl]; exact h1, h2⟩, by rw [hcq]; exact h3⟩
      · rename_i e1
        refine ⟨⟨n, ?_, h2⟩, h3⟩
        have hrq : r ≠ q := by intro e; subst e; exact hnq h1
        rw [hrow r e1 hrq]; exact h1
    | hol te' e' xs' i r =>
      obtain ⟨h1, h2⟩ := hl
      cases r with
      | none => exact ⟨h1, fun s hs => by cases hs⟩
      | some r =>
        obtain ⟨n, hn⟩ := h2 r rfl
        have hrq : r ≠ q := by intro e; subst e; exact hnq hn
        by_cases e1 : r = p
        · subst e1
          show LR _ w g (.hol te' e' xs' i (oqm r q (some r))) v
          have e2 : oqm r q (some r) = some q := by simp [oqm]
          rw [e2]
          refine ⟨by rw [show (some q).map g.c = (some r).map g.c by simp [hcq]]; exact h1, fun s hs => ?_⟩
          injection hs with hs
          subst hs
          rw [hp] at hn
          exact ⟨n, by rw [hgl, if_pos rfl]; exact hn⟩
        · show LR _ w g (.hol te' e' xs' i (oqm p q (some r))) v
          have e2 : oqm p q (some r) = some r := by simp [oqm, e1]
          rw [e2]
          refine ⟨h1, fun s hs => ?_⟩
          injection hs with hs
          subst hs
          exact ⟨n, by rw [hrow r e1 hrq]; exact hn⟩
    | clo f bs => exact ⟨hl.1, fun b hb => (hbox b).2 (hl.2 b hb)⟩
    | _ => exact hl
  have hlf : ∀ r, LR (Ev.xfer σ q) w g (gl (Ev.xfer σ q) r) (g.c r) := by
    intro r
    have hr := hLR _ _ (h.lf r)
    rw [hgl r]
    split
    · rename_i e; subst e
      have := h.lf p
      rw [hp] at this
      rw [hcq]; exact this
    · split
      · rename_i e; subst e
        exact ⟨hcq.symm, by rw [hgl, if_pos rfl]; rfl⟩
      · exact hr
  -- owners
  have hob : ∀ o b, ob (Ev.xfer σ q) g o = some b → ob σ g (if o = .inr q then .inr p else o) = some b ∧ o ≠ .inr p := by
    intro o b hb
    cases o with
    | inl t =>
      rw [if_neg (by simp)]
      exact ⟨by simpa [ob, xfer_shp] using hb, by simp⟩
    | inr r =>
      simp only [ob] at hb
      have ho : (gl (Ev.xfer σ q) r).isOwn = true := by
        cases ho : (gl (Ev.xfer σ q) r).isOwn with
        | true => rfl
        | false => rw [ho] at hb; simp at hb
      rw [ho, if_pos rfl] at hb
      rw [hgl r] at ho
      split at ho
      · rename_i e; subst e
        rw [if_pos rfl]
        refine ⟨?_, by simp; exact hne⟩
        simp only [ob, hp, Leaf.isOwn, if_true]
        rw [← hcq]; exact hb
      · rename_i e1
        split at ho
        · cases ho
        · rename_i e2
          rw [if_neg (by simp; exact Ne.symm e1)]
          refine ⟨?_, by simp; exact Ne.symm e2⟩
          have : (gl σ r).isOwn = true := by rw [isOwn_mvP] at ho; exact ho
          simp only [ob, this, if_true]; exact hb
  exact { h with
    sh := fun t ht => by rw [xfer_shp]; exact h.sh t (by simpa using ht)
    lf := hlf
    inj := fun o1 o2 b h1 h2 => by
      obtain ⟨a1, b1⟩ := hob _ _ h1
      obtain ⟨a2, b2⟩ := hob _ _ h2
      have := h.inj _ _ b a1 a2
      split at this <;> split at this <;> simp_all
    fr := fun o b hb => h.fr _ b (hob _ _ hb).1 }
theorem Rel.xfers {X : Ctx} {a : Act} {w : World} {g : Gh} (d : Nat) : ∀ (n i : Nat) {σ : St}, Rel X σ a w g → Rel X (xfers σ d i n) a w g
  | 0, _, _, h => h
  | n + 1, i, _, h => Rel.xfers d n (i + 1) (h.xfer ⟨d, i⟩)
@[simp] theorem length_xfers (d : Nat) : ∀ (n i : Nat) (σ : St), (Ev.xfers σ d i n).length = σ.length
  | 0, _, _ => rfl
  | n + 1, i, σ => by rw [Ev.xfers, length_xfers d n (i + 1), length_xfer]
/-- The blocks that are read only, and one row's. -/
def frG (g : Gh) (p : Pl) : Gh := { g with S := fun b => g.S b ∨ (g.c p).ownBlock = some b }
theorem frz_gl {σ : St} {p : Pl} {te : TypeId} {e : Ty} {xs : List e.den} (hp : gl σ p = .own te e xs) (r : Pl) :
    gl (frz σ p) r = if p = r then .val (.list e) xs else frP p e xs (gl σ r) := by
  have e1 : frz σ p = mapL (frP p e xs) (sl σ p (.val (.list e) xs)) := by unfold frz; rw [hp]
  have vp : Vp σ p := vp_of_ne (by rw [hp]; simp)
  rw [e1, gl_mapL _ rfl, gl_sl r _ vp]
  split <;> rfl
theorem frz_shp (σ : St) (p : Pl) (t : Nat) : (gs (frz σ p) t).shp = (gs σ t).shp := by
  unfold frz
  split
  · rw [shp_mapL _ rfl, shp_sl]
  · rfl
@[simp] theorem length_frz (σ : St) (p : Pl) : (frz σ p).length = σ.length := by
  unfold frz
  split <;> simp
theorem frz_id {σ : St} {p : Pl} (h : ∀ te e xs, gl σ p ≠ .own te e xs) : frz σ p = σ := by
  unfold frz
  split
  · rename_i e; exact absurd e (h _ _ _)
  · rfl
theorem Rel.frz {X : Ctx} {σ : St} {a : Act} {w : World} {g : Gh} (h : Rel X σ a w g) {p : Pl} {te : TypeId} {e : Ty} {xs : List e.den} (hp : gl σ p = .own te e xs) : Rel X (frz σ p) a w (frG g p) := by
  have ho : (gl σ p).isOwn = true := by rw [hp]; rfl
  have hgl := frz_gl hp
  have hbox : ∀ b, isBox (Ev.frz σ p) b ↔ isBox σ b := fun b => by unfold isBox; rw [frz_shp]
  have hS : ∀ b, g.S b → (frG g p).S b := fun b hb => .inl hb
  have hpr : ownR w g.S te e xs (g.c p) := by have := h.lf p; rw [hp] at this; exact this
  have hval : rel w (frG g p).S (.list e) xs [g.c p] := rel_of_ownR hpr hS (fun b hb => .inr hb)
  have hown : ∀ r, r ≠ p → (gl σ r).isOwn = true → (gl (Ev.frz σ p) r).isOwn = true := fun r hr hr2 => by
    rw [hgl r, if_neg (Ne.symm hr), isOwn_frP]; exact hr2
  have hlf : ∀ r, LR (Ev.frz σ p) w (frG g p) (gl (Ev.frz σ p) r) ((frG g p).c r) := by
    intro r
    have hr := h.lf r
    rw [hgl r]
    show LR _ _ _ _ (g.c r)
    split
    · rename_i e; subst e; exact hval
    · rename_i hne
      generalize gl σ r = l at hr
      cases l with
      | val t x => exact rel_mono hS (fun _ _ => rfl) hr
      | own te' e' xs' => exact ownR_mono hS (fun _ _ => rfl) (fun _ _ => rfl) hr
      | al q =>
        simp only [frP]
        split
        · rename_i e; subst e
          show rel _ _ _ _ _
          rw [hr.1]; exact hval
        · rename_i e; exact ⟨hr.1, hown q e hr.2⟩
      | nils => exact hr
      | ptr b o => exact ⟨hr.1, (hbox b).2 hr.2⟩
      | ept q e' i o =>
        simp only [frP]
        split
        · trivial
        · rename_i e1
          obtain ⟨⟨n, h1, h2⟩, h3⟩ := hr
          exact ⟨⟨n, by rw [hgl q, if_neg (Ne.symm e1), rowTy_frP]; exact h1, h2⟩, h3⟩
      | hol te' e' xs' i r =>
        refine LR_holF hS (fun _ _ => rfl) (fun _ _ => rfl) (fun s _ hf => ⟨rfl, fun n hn => ⟨n, ?_⟩⟩) hr
        have hs : s ≠ p := by simpa using hf
        rw [hgl s, if_neg (Ne.symm hs), rowTy_frP]; exact hn
      | vpt t x =>
        obtain ⟨b, o, cs, h1, h2, h3, h4⟩ := hr
        exact ⟨b, o, cs, h1, hS b h2, rel_mono hS (fun _ _ => rfl) h3, h4⟩
      | clo f bs => exact ⟨hr.1, fun b hb => (hbox b).2 (hr.2 b hb)⟩
      | cst u => exact hr
      | no => exact hr
      | und => trivial
  have hob : ∀ o b, ob (Ev.frz σ p) (frG g p) o = some b → ob σ g o = some b ∧ o ≠ .inr p := by
    intro o b hb
    cases o with
    | inl t => exact ⟨by simpa [ob, frz_shp, frG] using hb, by simp⟩
    | inr r =>
      simp only [ob] at hb
      rw [hgl r] at hb
      split at hb
      · simp [Leaf.isOwn] at hb
      · rename_i e
        rw [isOwn_frP] at hb
        exact ⟨hb, by simp; exact Ne.symm e⟩
  have hpo : ∀ b, (g.c p).ownBlock = some b → ob σ g (.inr p) = some b := fun b hb => by simp [ob, ho, hb]
  exact { h with
    sh := fun t ht => by rw [frz_shp]; exact h.sh t (by simpa using ht)
    lf := hlf
    inj := fun o1 o2 b h1 h2 => h.inj _ _ b (hob _ _ h1).1 (hob _ _ h2).1
    fr := fun o b hb => by
      obtain ⟨h1, h2⟩ := hob _ _ hb
      obtain ⟨f1, f2⟩ := h.fr o b h1
      refine ⟨fun hs => ?_, f2⟩
      rcases hs with hs | hs
      · exact f1 hs
      · exact h2 (h.inj _ _ b h1 (hpo b hs))
    sb := fun b hb => by
      rcases hb with hb | hb
      · exact h.sb b hb
      · obtain ⟨_, f2, f3⟩ := h.fr _ b (hpo b hb)
        exact ⟨f2, .inr (f3.symm)⟩
    s0 := fun b hb => .inl (h.s0 b hb) }
theorem LR_world {σ : St} {w w' : World} {g : Gh} {l : Leaf} {v : Value} (hS : ∀ b, g.S b → w'.heap[b]? = w.heap[b]?) (ho : l.isOwn = true → ∀ b, v.ownBlock = some b → w'.heap[b]? = w.heap[b]?)
    (h : LR σ w g l v) : LR σ w' g l v := by
  cases l with
  | val t x => exact rel_mono (fun _ h => h) hS h
  | own te e xs => exact ownR_mono (fun _ h => h) hS (ho rfl) h
  | hol te e xs i q => exact LR_hol (fun _ h => h) hS (ho rfl) (fun r _ => ⟨rfl, fun n hn => ⟨n, hn⟩⟩) h
  | vpt t x =>
    obtain ⟨b, o, cs, h1, h2, h3, h4⟩ := h
    exact ⟨b, o, cs, h1, h2, rel_mono (fun _ h => h) hS h3, fun j u hu => by rw [← h4 j u hu]; exact World.cell?_of_block (hS b h2)⟩
  | _ => exact h
theorem Rel.world {X : Ctx} {σ : St} {a : Act} {w w' : World} {g : Gh} (h : Rel X σ a w g) (hb : ∀ b, (g.S b ∨ ∃ o, ob σ g o = some b) → w'.heap[b]? = w.heap[b]?)
    (hos : w'.os = w.os) (htape : w'.tape = w.tape) (hout : w'.output = w.output) (hsz : w.heap.size ≤ w'.heap.size) (hfr : ∀ b, b < X.w0.heap.size → ¬ X.M b → w'.heap[b]? = w.heap[b]?) (hdr : w.drawn ≤ w'.drawn) : Rel X σ a w' g := by
  refine { h with
    sh := fun t ht => ?_
    lf := fun p => ?_
    fr := fun o b hb => ?_
    sb := fun b hb => ⟨by have := (h.sb b hb).1; omega, (h.sb b hb).2⟩
    os := hos.trans h.os
    tape := htape.trans h.tape
    drawn := Nat.le_trans h.drawn hdr
    output := hout.trans h.output
    grow := Nat.le_trans h.grow hsz
    frame := fun b h1 h2 => (hfr b h1 h2).trans (h.frame b h1 h2) }
  · have := h.sh t ht
    have hbx : (gs σ t).shp.isBox = true → w'.heap[g.blk t]? = w.heap[g.blk t]? := fun hx => hb _ (.inr ⟨.inl t, by simp [ob, hx]⟩)
    generalize (gs σ t).shp = s at *
    cases s with
    | cs ag n => cases ag <;> exact this
    | box n => exact ⟨this.1, by rw [hbx rfl]; exact this.2⟩
    | tup ks n => exact this
    | itr s i n => exact ⟨this.1, this.2.1, by rw [hbx rfl]; exact this.2.2⟩
    | vb n => exact this
  · exact LR_world (fun b hS => hb b (.inl hS)) (fun ho b hbo => hb b (.inr ⟨.inr p, by simp [ob, ho, hbo]⟩)) (h.lf p)
  · obtain ⟨h1, h2, h3⟩ := h.fr o b hb
    exact ⟨h1, by omega, h3⟩
/-- New blocks alone. -/
theorem Rel.below {X : Ctx} {σ : St} {a : Act} {w w' : World} {g : Gh} (h : Rel X σ a w g) (hb : Go.RowKit.Below w.heap.size w w') (hdr : w.drawn ≤ w'.drawn) : Rel X σ a w' g :=
  h.world (fun b hS => hb.block b (by
    rcases hS with hS | ⟨o, ho⟩
    · exact (h.sb b hS).1
    · exact (h.fr o b ho).2.1)) hb.os hb.tape hb.output hb.size (fun b h1 h2 => hb.block b (Nat.lt_of_lt_of_le h1 h.grow)) hdr
end Go.Ev
namespace Go.Ev
set_option linter.unusedVariables false
set_option linter.unusedSimpArgs false
/-- A new slot's shape fits a value whose cells are `cs`; a box lies in block `nb`. -/
def VR (w : World) (nb : Nat) (cs : List Value) (v : Value) : Shp → Prop
  | .cs false n => n = 1 ∧ cs = [v]
  | .cs true n => n = cs.length ∧ v = .agg cs.toArray
  | .box n => n = cs.length ∧ v = .pointer (some ⟨nb, 0, none⟩) ∧ ∃ te, w.heap[nb]? = some (.cells cs.toArray te (0, 0))
  | .tup ks n => n = cs.length ∧ ∃ vs, v = .tuple vs.toArray ∧ tupR ks vs cs
  | .itr s i n => n = cs.length ∧ n = 0 ∧ v = .pointer (some ⟨nb, 0, none⟩) ∧ w.heap[nb]? = some (.stringIter ⟨s.toArray⟩ i)
  | .vb _ => False
/-- The blocks that a new slot owns: its box's, its leaves'. -/
def nob (s : Slot) (nb : Nat) (cs : List Value) : Option Nat → Option Nat
  | none => if s.shp.isBox then some nb else none
  | some i => if (lget s.leaves i).isOwn then (cs.getD i undef).ownBlock else none
def wrG (g : Gh) (d : Nat) (cs : List Value) (nb : Nat) : Gh :=
  { g with c := fun p => if p.t = d then cs.getD p.i undef else g.c p, blk := fun t => if t = d then nb else g.blk t }
theorem owns_of_leaf {s : Slot} {i : Nat} (h : (lget s.leaves i).isOwn = true) : s.owns = true := by
  have hi : i < s.leaves.length := by
    apply Nat.lt_of_not_le; intro hn; rw [lget_of_le hn] at h; cases h
  have hm : lget s.leaves i ∈ s.leaves := by
    rw [lget_eq_getElem?, List.getElem?_eq_getElem hi]; exact List.getElem_mem hi
  cases s with
  | box ls => rfl
  | cs a ls => exact List.any_eq_true.2 ⟨_, hm, h⟩
  | tup ks ls => exact List.any_eq_true.2 ⟨_, hm, h⟩
  | itr s i ls => rfl
  | vb ls => exact List.any_eq_true.2 ⟨_, hm, h⟩
theorem owns_of_box {s : Slot} (h : s.shp.isBox = true) : s.owns = true := by
  cases s <;> simp_all [Slot.shp, Shp.isBox, Slot.owns]
/-- Where slot `d` owns nothing, nothing leads to it. -/
theorem LR_noref {σ : St} {w : World} {g : Gh} {d : Nat} (hd : (gs σ d).owns = false) {l : Leaf} {v : Value} (h : LR σ w g l v) : killL d l = l := by
  have h1 : ∀ q : Pl, (gl σ q).isOwn = true → q.t ≠ d := fun q hq e => by
    subst e; rw [owns_of_leaf hq] at hd; cases hd
  have h2 : ∀ b, isBox σ b → b ≠ d := fun b hb e => by
    subst e; rw [owns_of_box hb] at hd; cases hd
  cases l with
  | al q => simp [killL, h1 q h.2]
  | ptr b o => simp [killL, h2 b h.2]
  | ept q e i o =>
    obtain ⟨⟨n, hx, _⟩, _⟩ := h
    simp [killL, h1 q (rowTy_own hx)]
  | hol te e xs i q =>
    show Leaf.hol te e xs i (oqf _ q) = _
    rw [oqf_id]
    intro s hs
    obtain ⟨n, hn⟩ := h.2 s hs
    simpa using h1 s (rowTy_own hn)
  | clo f bs =>
    have : bs.contains d = false := by
      cases hc : bs.contains d with
      | false => rfl
      | true =>
        have hm : d ∈ bs := by simpa using hc
        exact absurd rfl (h2 d (h.2 d hm))
    simp [killL, this]
    intro hm
    exact absurd rfl (h2 d (h.2 d hm))
  | _ => rfl
theorem kill_gl {X : Ctx} {σ : St} {a : Act} {w : World} {g : Gh} (h : Rel X σ a w g) (d : Nat) (p : Pl) : gl (kill σ d) p = killL d (gl σ p) := by
  unfold kill
  split
  · rw [gl_mapL _ rfl]
  · rename_i hd
    exact (LR_noref (by simpa using hd) (h.lf p)).symm
theorem kill_shp (σ : St) (d t : Nat) : (gs (kill σ d) t).shp = (gs σ t).shp := by
  unfold kill
  split
  · rw [shp_mapL _ rfl]
  · rfl
@[simp] theorem length_kill (σ : St) (d : Nat) : (kill σ d).length = σ.length := by
  unfold kill; split <;> simp
theorem getD_set_self (t : Array Value) (d : Nat) (v : Value) (h : d < t.size) : (t.setIfInBounds d v).getD d undef = v := by simp [Array.getD, h]
theorem getD_set_ne (t : Array Value) (d u : Nat) (v : Value) (h : u ≠ d) : (t.setIfInBounds d v).getD u undef = t.getD u undef := by
  simp only [Array.getD_eq_getD_getElem?, Array.getElem?_setIfInBounds]
  rw [if_neg (Ne.symm h)]
theorem cellsL_wrG_ne (g : Gh) (d t n : Nat) (cs : List Value) (nb : Nat) (h : t ≠ d) : cellsL (wrG g d cs nb) t n = cellsL g t n := by
  simp [cellsL, wrG, h]
theorem cellsL_wrG_self (g : Gh) (d : Nat) (cs : List Value) (nb : Nat) : cellsL (wrG g d cs nb) d cs.length = cs := by
  apply List.ext_getElem?
  intro i
  simp only [cellsL, wrG, List.getElem?_map]
  by_cases hi : i < cs.length
  · simp [hi, List.getD_eq_getElem?_getD]
  · simp [hi]
theorem Rel.wr {X : Ctx} {σ : St} {a : Act} {w : World} {g : Gh} (h : Rel X σ a w g) {d : Nat} (hd : d < X.N) (hN : X.N ≤ σ.length) {s : Slot} {cs : List Value} {v : Value} {nb : Nat}
    (hlen : cs.length = s.leaves.length) (hv : VR w nb cs v s.shp) (hlf : ∀ i, LR σ w g (lget s.leaves i) (cs.getD i undef))
    (hn1 : ∀ o1 o2 b, nob s nb cs o1 = some b → nob s nb cs o2 = some b → o1 = o2)
    (hn2 : ∀ o b, nob s nb cs o = some b → ¬ g.S b ∧ b < w.heap.size ∧ (X.w0.heap.size ≤ b ∨ X.M b) ∧ ∀ o', ob σ g o' ≠ some b) :
    Rel X (wr σ (some d) s) (a.put (some d) v) w (wrG g d cs nb) := by
  have hdl : d < σ.length := by omega
  have hgs : ∀ t, gs (Ev.wr σ (some d) s) t = if d = t then s.with (s.leaves.map (killL d)) else gs (kill σ d) t := by
    intro t
    simp only [Ev.wr, gs_ss, length_kill]
    by_cases e : d = t
    · subst e; simp [hdl]
    · simp [e]
  have hshp : ∀ t, (gs (Ev.wr σ (some d) s) t).shp = if d = t then s.shp else (gs σ t).shp := by
    intro t
    rw [hgs t]
    split
    · rw [shp_with]; simp
    · exact kill_shp σ d t
  have hgl : ∀ p, gl (Ev.wr σ (some d) s) p = killL d (if p.t = d then lget s.leaves p.i else gl σ p) := by
    intro p
    unfold gl
    rw [hgs p.t]
    by_cases e : d = p.t
    · rw [if_pos e, if_pos e.symm, leaves_with, lget_map _ rfl]
    · rw [if_neg e, if_neg (Ne.symm e)]
      exact kill_gl h d p
  have hbox : ∀ b, b ≠ d → (isBox (Ev.wr σ (some d) s) b ↔ isBox σ b) := fun b hb => by
    unfold isBox; rw [hshp b, if_neg (Ne.symm hb)]
  have hown : ∀ q : Pl, q.t ≠ d → (gl σ q).isOwn = true → (gl (Ev.wr σ (some d) s) q).isOwn = true := fun q hq ho => by
    rw [hgl q, if_neg hq, isOwn_killL]; exact ho
  have hLR : ∀ l v, LR σ w g l v → LR (Ev.wr σ (some d) s) w (wrG g d cs nb) (killL d l) v := by
    intro l v hl
    cases l with
    | al q =>
      by_cases e : q.t = d
      · simp [killL, e, LR]
      · simp only [killL, e, if_false]
        exact ⟨by simp [wrG, e]; exact hl.1, hown q e hl.2⟩
    | ptr b o =>
      by_cases e : b = d
      · simp [killL, e, LR]
      · simp only [killL, e, if_false]
        exact ⟨by simp [wrG, e]; exact hl.1, (hbox b e).2 hl.2⟩
    | ept q e' i o =>
      by_cases e : q.t = d
      · simp [killL, e, LR]
      · simp only [killL, e, if_false]
        obtain ⟨⟨n, h1, h2⟩, h3⟩ := hl
        exact ⟨⟨n, by rw [hgl q, if_neg e, rowTy_killL]; exact h1, h2⟩, by simpa [wrG, e] using h3⟩
    | hol te e xs i q =>
      refine LR_holF (σ := σ) (g := g) (fun _ h => h) (fun _ _ => rfl) (fun _ _ => rfl) (fun s _ hf => ?_) hl
      have hs : s.t ≠ d := by simpa using hf
      exact ⟨by simp [wrG, hs], fun n hn => ⟨n, by rw [hgl s, if_neg hs, rowTy_killL]; exact hn⟩⟩
    | clo f bs =>
      by_cases e : bs.contains d = true
      · simp only [killL, e, if_true]; trivial
      · have hm : ∀ b ∈ bs, b ≠ d := fun b hb e2 => by subst e2; exact e (by simpa using hb)
        simp only [killL, e]
        refine ⟨?_, fun b hb => (hbox b (hm b hb)).2 (hl.2 b hb)⟩
        rw [hl.1]
        congr 2
        apply List.map_congr_left
        intro b hb
        simp [wrG, hm b hb]
    | val t x => exact hl
    | own te e xs => exact hl
    | nils => exact hl
    | vpt t x => exact hl
    | cst u => exact hl
    | no => exact hl
    | und => trivial
  have hob : ∀ o b, ob (Ev.wr σ (some d) s) (wrG g d cs nb) o = some b →
      (ob σ g o = some b ∧ (match o with | .inl t => t ≠ d | .inr p => p.t ≠ d)) ∨ (∃ k, nob s nb cs k = some b ∧ o = (match k with | none => .inl d | some i => .inr ⟨d, i⟩)) := by
    intro o b hb
    cases o with
    | inl t =>
      simp only [ob, hshp t] at hb
      by_cases e : d = t
      · subst e
        rw [if_pos rfl] at hb
        refine .inr ⟨none, ?_, rfl⟩
        simpa [nob, wrG] using hb
      · rw [if_neg e] at hb
        refine .inl ⟨?_, Ne.symm e⟩
        simpa [ob, wrG, Ne.symm e] using hb
    | inr p =>
      simp only [ob, hgl p, isOwn_killL] at hb
      by_cases e : p.t = d
      · rw [if_pos e] at hb
        refine .inr ⟨some p.i, ?_, by simp [← e]⟩
        simpa [nob, wrG, e] using hb
      · rw [if_neg e] at hb
        refine .inl ⟨?_, e⟩
        simpa [ob, wrG, e] using hb
  refine { h with
    size := by simp [Act.put, h.size]
    defers := h.defers
    bx := fun t ht => by
      have : t ≠ d := by omega
      simpa [wrG, this] using h.bx t ht
    sh := fun t ht => ?_
    lf := fun p => ?_
    inj := fun o1 o2 b h1 h2 => ?_
    fr := fun o b hb => ?_ }
  · rw [hshp t]
    have ht' : t < σ.length := by simpa [Ev.wr] using ht
    by_cases e : d = t
    · subst e
      rw [if_pos rfl]
      have hsz : d < a.tmps.size := by rw [h.size]; exact hd
      have hself : (a.put (some d) v).tmps.getD d undef = v := getD_set_self _ _ _ hsz
      revert hv
      cases hsx : s.shp with
      | cs ag n =>
        cases ag with
        | false => rintro ⟨h1, h2⟩; refine ⟨h1, ?_⟩; rw [hself]; simp [wrG, h2]
        | true => rintro ⟨h1, h2⟩; show _ = _; rw [hself, h2, h1, cellsL_wrG_self]
      | box n =>
        rintro ⟨h1, h2, te, h3⟩
        refine ⟨fun _ => ?_, te, ?_⟩
        · rw [hself, h2]; simp [wrG]
        · rw [h1, cellsL_wrG_self]; simpa [wrG] using h3
      | tup ks n =>
        rintro ⟨h1, vs, h2, h3⟩
        refine ⟨vs, ?_, ?_⟩
        · rw [hself, h2]
        · rw [h1, cellsL_wrG_self]; exact h3
      | itr s i n =>
        rintro ⟨h1, h0, h2, h3⟩
        exact ⟨h0, fun _ => by rw [hself, h2]; simp [wrG], by simpa [wrG] using h3⟩
      | vb n => exact False.elim
    · rw [if_neg e]
      have e' : t ≠ d := Ne.symm e
      have := h.sh t ht'
      have hgt : (a.put (some d) v).tmps.getD t undef = a.tmps.getD t undef := getD_set_ne _ _ _ _ e'
      revert this
      cases (gs σ t).shp with
      | cs ag n =>
        cases ag with
        | false => rintro ⟨h1, h2⟩; refine ⟨h1, ?_⟩; rw [hgt, h2]; simp [wrG, e']
        | true => intro h1; show _ = _; rw [hgt, cellsL_wrG_ne _ _ _ _ _ _ e']; exact h1
      | box n =>
        rintro ⟨h1, h2⟩
        refine ⟨fun hx => ?_, ?_⟩
        · rw [hgt, h1 hx]; simp [wrG, e']
        · rw [cellsL_wrG_ne _ _ _ _ _ _ e']; simpa [wrG, e'] using h2
      | tup ks n =>
        rintro ⟨vs, h1, h2⟩
        exact ⟨vs, by rw [hgt]; exact h1, by rw [cellsL_wrG_ne _ _ _ _ _ _ e']; exact h2⟩
      | itr s i n =>
        rintro ⟨h0, h1, h2⟩
        exact ⟨h0, fun hx => by rw [hgt, h1 hx]; simp [wrG, e'], by simpa [wrG, e'] using h2⟩
      | vb n =>
        rintro ⟨h0, h1⟩
        exact ⟨h0, by simpa [wrG, e'] using h1⟩
  · rw [hgl p]
    by_cases e : p.t = d
    · rw [if_pos e]
      have := hLR _ _ (hlf p.i)
      simpa [wrG, e] using this
    · rw [if_neg e]
      have := hLR _ _ (h.lf p)
      simpa [wrG, e] using this
  · rcases hob _ _ h1 with ⟨a1, c1⟩ | ⟨k1, a1, c1⟩ <;> rcases hob _ _ h2 with ⟨a2, c2⟩ | ⟨k2, a2, c2⟩
    · exact h.inj _ _ b a1 a2
    · exact absurd a1 ((hn2 k2 b a2).2.2.2 o1)
    · exact absurd a2 ((hn2 k1 b a1).2.2.2 o2)
    · rw [c1, c2, hn1 k1 k2 b a1 a2]
  · rcases hob _ _ hb with ⟨a1, c1⟩ | ⟨k1, a1, c1⟩
    · exact h.fr o b a1
    · obtain ⟨f1, f2, f3, _⟩ := hn2 k1 b a1
      exact ⟨f1, f2, f3⟩
/-- A slot that owns nothing new. -/
theorem Rel.wrPlain {X : Ctx} {σ : St} {a : Act} {w : World} {g : Gh} (h : Rel X σ a w g) {d : Nat} (hd : d < X.N) (hN : X.N ≤ σ.length) {s : Slot} {cs : List Value} {v : Value}
    (hlen : cs.length = s.leaves.length) (hv : VR w 0 cs v s.shp) (hb : s.shp.isBox = false) (hlf : ∀ i, LR σ w g (lget s.leaves i) (cs.getD i undef)) (ho : ∀ i, (lget s.leaves i).isOwn = false) :
    Rel X (Ev.wr σ (some d) s) (a.put (some d) v) w (wrG g d cs 0) := by
  have hn : ∀ o, nob s 0 cs o = none := by
    intro o
    cases o with
    | none => simp [nob, hb]
    | some i => simp [nob, ho i]
  exact h.wr hd hN hlen hv hlf (fun o1 o2 b h1 _ => by rw [hn o1] at h1; cases h1) (fun o b hb => by rw [hn o] at hb; cases hb)
/-- One leaf. -/
theorem Rel.wr1 {X : Ctx} {σ : St} {a : Act} {w : World} {g : Gh} (h : Rel X σ a w g) {d : Nat} (hd : d < X.N) (hN : X.N ≤ σ.length) {l : Leaf} {v : Value}
    (hl : LR σ w g l v) (ho : l.isOwn = false) : ∃ g', Rel X (Ev.wr σ (some d) (.cs false [l])) (a.put (some d) v) w g' ∧ g'.S = g.S :=
  ⟨_, h.wrPlain hd hN (cs := [v]) rfl ⟨rfl, rfl⟩ rfl (fun i => by
    cases i with
    | zero => exact hl
    | succ i => trivial) (fun i => by
    cases i with
    | zero => exact ho
    | succ i => rfl), rfl⟩
/-- A row of its own, in a block that nobody has. -/
theorem Rel.wrOwn {X : Ctx} {σ : St} {a : Act} {w : World} {g : Gh} (h : Rel X σ a w g) {d : Nat} (hd : d < X.N) (hN : X.N ≤ σ.length) {te : TypeId} {e : Ty} {xs : List e.den} {v : Value}
    (hl : ownR w g.S te e xs v) (hn : ∀ b, v.ownBlock = some b → ¬ g.S b ∧ (X.w0.heap.size ≤ b ∨ X.M b) ∧ ∀ o', ob σ g o' ≠ some b) :
    ∃ g', Rel X (Ev.wr σ (some d) (.cs false [.own te e xs])) (a.put (some d) v) w g' ∧ g'.S = g.S :=
  ⟨_, h.wr hd hN (cs := [v]) (nb := 0) rfl ⟨rfl, rfl⟩ (fun i => by
    cases i with
    | zero => exact hl
    | succ i => trivial) (fun o1 o2 b h1 h2 => by
    have key : ∀ o, nob (.cs false [.own te e xs]) 0 [v] o = some b → o = some 0 := by
      intro o ho
      cases o with
      | none => simp [nob, Slot.shp, Shp.isBox] at ho
      | some i => cases i with
        | zero => rfl
        | succ i => simp [nob, Slot.leaves, lget, Leaf.isOwn] at ho
    rw [key o1 h1, key o2 h2]) (fun o b hb => by
    cases o with
    | none => simp [nob, Slot.shp, Shp.isBox] at hb
    | some i => cases i with
      | zero =>
        have hb' : v.ownBlock = some b := by simpa [nob, Slot.leaves, lget, Leaf.isOwn] using hb
        obtain ⟨h1, h2, h3⟩ := hn b hb'
        exact ⟨h1, ownR_lt hl hb', h2, h3⟩
      | succ i => simp [nob, Slot.leaves, lget, Leaf.isOwn] at hb), rfl⟩
end Go.Ev
namespace Go.Ev
set_option linter.unusedVariables false
set_option linter.unusedSimpArgs false
def wrPG (g : Gh) (p : Pl) (u : Value) : Gh := { g with c := fun q => if q = p then u else g.c q }
theorem vp_mapL {f : Leaf → Leaf} (hf : f .und = .und) {σ : St} {p : Pl} (h : Vp σ p) : Vp (mapL f σ) p := by
  refine ⟨by simpa using h.1, ?_⟩
  rw [leaves_len, shp_mapL f hf, ← leaves_len]; exact h.2
noncomputable def kp (σ : St) (p : Pl) : St := match (gl σ p).isOwn with | true => mapL (killP p) σ | false => σ
theorem wrP_eq (σ : St) (p : Pl) (l : Leaf) : wrP σ p l = sl (kp σ p) p (killP p l) := rfl
theorem kp_gl {X : Ctx} {σ : St} {a : Act} {w : World} {g : Gh} (h : Rel X σ a w g) (p q : Pl) : gl (kp σ p) q = killP p (gl σ q) := by
  unfold kp
  split
  · rw [gl_mapL _ rfl]
  · rename_i hn
    exact (h.noP_of hn q).symm
theorem kp_shp (σ : St) (p : Pl) (t : Nat) : (gs (kp σ p) t).shp = (gs σ t).shp := by
  unfold kp; split
  · rw [shp_mapL _ rfl]
  · rfl
@[simp] theorem length_kp (σ : St) (p : Pl) : (kp σ p).length = σ.length := by
  unfold kp; split <;> simp
theorem vp_kp {σ : St} {p q : Pl} (h : Vp σ p) : Vp (kp σ q) p := by
  refine ⟨by simpa using h.1, ?_⟩
  rw [leaves_len, kp_shp, ← leaves_len]; exact h.2
theorem wrP_shp (σ : St) (p : Pl) (l : Leaf) (t : Nat) : (gs (wrP σ p l) t).shp = (gs σ t).shp := by rw [wrP_eq, shp_sl, kp_shp]
@[simp] theorem length_wrP (σ : St) (p : Pl) (l : Leaf) : (wrP σ p l).length = σ.length := by rw [wrP_eq]; simp
theorem ownBlock_blk {σ : St} {g : Gh} {p : Pl} (ho : (gl σ p).isOwn = true) {b : Nat} (hb : (g.c p).ownBlock = some b) : ob σ g (.inr p) = some b := by simp [ob, ho, hb]
theorem box_blk {σ : St} {g : Gh} {t : Nat} (hb : isBox σ t) : ob σ g (.inl t) = some (g.blk t) := by simp [ob, show (gs σ t).shp.isBox = true from hb]
/-- What is asked of the other leaves after a leaf was written. -/
theorem LR_wrP {X : Ctx} {σ : St} {a : Act} {w w' : World} {g : Gh} (h : Rel X σ a w g) {p : Pl} (hp : Vp σ p) (l : Leaf) {u : Value} (hS : ∀ b, g.S b → w'.heap[b]? = w.heap[b]?)
    {l' : Leaf} {v : Value} (ho : l'.isOwn = true → ∀ b, v.ownBlock = some b → w'.heap[b]? = w.heap[b]?) (hl : LR σ w g l' v) : LR (wrP σ p l) w' (wrPG g p u) (killP p l') v := by
  have hgl : ∀ q, gl (wrP σ p l) q = if p = q then killP p l else killP p (gl σ q) := fun q => by rw [wrP_eq, gl_sl q _ (vp_kp hp), kp_gl h]
  have hown : ∀ q, q ≠ p → (gl σ q).isOwn = true → (gl (wrP σ p l) q).isOwn = true := fun q hq ho => by rw [hgl, if_neg (Ne.symm hq), isOwn_killP]; exact ho
  have hbox : ∀ b, isBox (wrP σ p l) b ↔ isBox σ b := fun b => by unfold isBox; rw [wrP_shp]
  have hl2 := LR_world hS ho hl
  cases l' with
  | al q =>
    by_cases e : q = p
    · simp [killP, e, LR]
    · simp only [killP, e, if_false]
      exact ⟨by simp [wrPG, e]; exact hl2.1, hown q e hl2.2⟩
  | ptr b o => exact ⟨hl2.1, (hbox b).2 hl2.2⟩
  | ept q e' i o =>
    by_cases e : q = p
    · simp [killP, e, LR]
    · simp only [killP, e, if_false]
      obtain ⟨⟨n, h1, h2⟩, h3⟩ := hl2
      exact ⟨⟨n, by rw [hgl, if_neg (Ne.symm e), rowTy_killP]; exact h1, h2⟩, by simpa [wrPG, e] using h3⟩
  | hol te e xs i q =>
    refine LR_holF (σ := σ) (g := g) (fun _ h => h) (fun _ _ => rfl) (fun _ _ => rfl) (fun s _ hf => ?_) hl2
    have hs : s ≠ p := by simpa using hf
    exact ⟨by simp [wrPG, hs], fun n hn => ⟨n, by rw [hgl, if_neg (Ne.symm hs), rowTy_killP]; exact hn⟩⟩
  | clo f bs => exact ⟨hl2.1, fun b hb => (hbox b).2 (hl2.2 b hb)⟩
  | val t x => exact hl2
  | own te e xs => exact hl2
  | nils => exact hl2
  | vpt t x => exact hl2
  | cst u => exact hl2
  | no => exact hl2
  | und => trivial
/-- A leaf of a box is written. -/
theorem Rel.wrP {X : Ctx} {σ : St} {a : Act} {w : World} {g : Gh} (h : Rel X σ a w g) {p : Pl} (hp : Vp σ p) (hb : isBox σ p.t) {l : Leaf} {u : Value} (hl : LR σ w g l u) (ho : l.isOwn = false) :
    Rel X (wrP σ p l) a (w.setCell ⟨g.blk p.t, p.i, none⟩ u) (wrPG g p u) := by
  have hgl : ∀ q, gl (Ev.wrP σ p l) q = if p = q then killP p l else killP p (gl σ q) := fun q => by rw [wrP_eq, gl_sl q _ (vp_kp hp), kp_gl h]
  have hB := box_blk (g := g) hb
  have hother : ∀ k, k ≠ g.blk p.t → (w.setCell ⟨g.blk p.t, p.i, none⟩ u).heap[k]? = w.heap[k]? := fun k hk => heap_setCell_other w _ k u hk
  have hS : ∀ b, g.S b → (w.setCell ⟨g.blk p.t, p.i, none⟩ u).heap[b]? = w.heap[b]? := fun b hs => hother b (fun e => (h.fr _ _ hB).1 (e ▸ hs))
  have hob : ∀ o b, ob (Ev.wrP σ p l) (wrPG g p u) o = some b → ob σ g o = some b ∧ o ≠ .inr p := by
    intro o b hb'
    cases o with
    | inl t => exact ⟨by simpa [ob, wrP_shp, wrPG] using hb', by simp⟩
    | inr q =>
      simp only [ob, hgl q] at hb'
      by_cases e : p = q
      · rw [if_pos e, isOwn_killP, ho] at hb'; simp at hb'
      · rw [if_neg e, isOwn_killP] at hb'
        exact ⟨by simpa [ob, wrPG, Ne.symm e] using hb', by simp; exact Ne.symm e⟩
  have hsh := h.sh p.t hp.1
  have hbs : (gs σ p.t).shp.isBox = true := hb
  refine { h with
    sh := fun t ht => ?_
    lf := fun q => ?_
    inj := fun o1 o2 b h1 h2 => h.inj _ _ b (hob _ _ h1).1 (hob _ _ h2).1
    fr := fun o b hb' => by
      obtain ⟨f1, f2, f3⟩ := h.fr o b (hob _ _ hb').1
      exact ⟨f1, by simpa using f2, f3⟩
    sb := fun b hb' => by simpa using h.sb b hb'
    os := h.os
    tape := h.tape
    drawn := h.drawn
    output := h.output
    grow := by simpa using h.grow
    frame := fun b h1 h2 => by
      rw [hother b ?_]; exact h.frame b h1 h2
      intro e; subst e
      rcases (h.fr _ _ hB).2.2 with h3 | h3
      · omega
      · exact h2 h3 }
  · rw [wrP_shp]
    have ht' : t < σ.length := by simpa using ht
    have := h.sh t ht'
    by_cases e : t = p.t
    · subst e
      revert this hbs
      have hlen : p.i < (gs σ p.t).shp.len := by rw [← leaves_len]; exact hp.2
      revert hlen
      cases (gs σ p.t).shp with
      | cs ag n => intro _ hx _; simp [Shp.isBox] at hx
      | tup ks n => intro _ hx _; simp [Shp.isBox] at hx
      | itr s i n => rintro hlen _ ⟨h0, _⟩; simp only [Shp.len] at hlen; omega
      | vb n => intro _ hx _; simp [Shp.isBox] at hx
      | box n =>
        rintro hlen _ ⟨h1, te, h2⟩
        refine ⟨h1, te, ?_⟩
        rw [show (wrPG g p u).blk = g.blk from rfl, heap_setCell_same w _ p.i _ te u h2]
        congr 2
        apply Array.ext'
        simp only [Array.toList_setIfInBounds]
        apply List.ext_getElem?
        intro i
        simp only [cellsL, List.getElem?_set, List.getElem?_map, List.length_map, List.length_range, wrPG]
        by_cases hi : p.i = i
        · subst hi
          simp only [Shp.len] at hlen
          simp [hlen]
        · rw [if_neg hi]
          by_cases hn : i < n
          · simp [hn]
            intro e; exact absurd (by rw [← e]) hi
          · simp [hn]
    · have hc : ∀ n, cellsL (wrPG g p u) t n = cellsL g t n := fun n => by
        simp only [cellsL, wrPG]
        apply List.map_congr_left
        intro i _
        rw [if_neg (by intro e2; apply e; rw [← e2])]
      have hblk : (gs σ t).shp.isBox = true → g.blk t ≠ g.blk p.t := fun hx e2 => by
        have h1 := box_blk (g := g) (t := t) (σ := σ) hx
        rw [e2] at h1
        have := h.inj _ _ _ h1 hB
        simp at this; exact e this
      revert hblk this
      cases (gs σ t).shp with
      | cs ag n =>
        intro hx _
        cases ag with
        | false => exact ⟨hx.1, by rw [hx.2]; simp [wrPG]; intro e2; exact absurd (by rw [← e2]) e⟩
        | true => show _ = _; rw [hc]; exact hx
      | box n =>
        rintro ⟨h1, te, h2⟩ hblk
        refine ⟨h1, te, ?_⟩
        rw [hc, show (wrPG g p u).blk = g.blk from rfl, hother _ (hblk rfl)]; exact h2
      | tup ks n =>
        intro hx _
        obtain ⟨vs, h1, h2⟩ := hx
        exact ⟨vs, h1, by rw [hc]; exact h2⟩
      | itr s i n =>
        rintro ⟨h0, h1, h2⟩ hblk
        exact ⟨h0, h1, by rw [show (wrPG g p u).blk = g.blk from rfl, hother _ (hblk rfl)]; exact h2⟩
      | vb n =>
        intro hx _
        exact ⟨hx.1, by rw [show (wrPG g p u).vc = g.vc from rfl, ← hx.2]; simp [wrPG]; intro e2; exact absurd (by rw [← e2]) e⟩
  · rw [hgl q]
    by_cases e : p = q
    · subst e
      rw [if_pos rfl]
      have := LR_wrP h hp l (u := u) hS (fun hx => by rw [ho] at hx; cases hx) hl
      simpa [wrPG] using this
    · rw [if_neg e]
      have := LR_wrP h hp l (u := u) hS (fun hx b hbo => hother b (fun e2 => by
        have h1 := ownBlock_blk (g := g) hx hbo
        rw [e2] at h1
        have := h.inj _ _ _ h1 hB
        cases this)) (h.lf q)
      simpa [wrPG, Ne.symm e] using this
/-- A place's owned row becomes another one, in the same block. -/
theorem Rel.setRow {X : Ctx} {σ : St} {a : Act} {w w' : World} {g : Gh} (h : Rel X σ a w g) {p : Pl} {l' : Leaf} {e : Ty} {n : Nat} (hp : rowTy (gl σ p) = some (e, n)) (hl' : rowTy l' = some (e, n))
    (hother : ∀ k, (g.c p).ownBlock ≠ some k → w'.heap[k]? = w.heap[k]?) (hos : w'.os = w.os) (htape : w'.tape = w.tape) (hout : w'.output = w.output) (hsz : w'.heap.size = w.heap.size)
    (hdr : w.drawn ≤ w'.drawn) (hr : LR (sl σ p l') w' g l' (g.c p)) : Rel X (sl σ p l') a w' g := by
  have ho : (gl σ p).isOwn = true := rowTy_own hp
  have hv : Vp σ p := vp_of_ne (by intro e; rw [e] at ho; cases ho)
  have hgl : ∀ q, gl (sl σ p l') q = if p = q then l' else gl σ q := fun q => gl_sl q _ hv
  have hrow : ∀ q, rowTy (gl (sl σ p l') q) = rowTy (gl σ q) := fun q => by
    rw [hgl]; split
    · rename_i e1; subst e1; rw [hl', hp]
    · rfl
  have hbl : ∀ k, (g.c p).ownBlock = some k → ob σ g (.inr p) = some k := fun k hk => ownBlock_blk ho hk
  have hS : ∀ b, g.S b → w'.heap[b]? = w.heap[b]? := fun b hs => hother b (fun e => (h.fr _ _ (hbl b e)).1 hs)
  have hown : ∀ q, (gl σ q).isOwn = true → (gl (sl σ p l') q).isOwn = true := fun q hq => by
    rw [isOwn_row, hrow, ← isOwn_row]; exact hq
  have hob : ∀ o b, ob (sl σ p l') g o = some b → ob σ g o = some b := by
    intro o b hb
    cases o with
    | inl t => simpa [ob, shp_sl] using hb
    | inr q => simpa [ob, isOwn_row, hrow] using hb
  have hLR : ∀ l v, (l.isOwn = true → ∀ b, v.ownBlock = some b → w'.heap[b]? = w.heap[b]?) → LR σ w g l v → LR (sl σ p l') w' g l v := by
    intro l v hlo hl
    have hl2 := LR_world hS hlo hl
    cases l with
    | al q => exact ⟨hl2.1, hown q hl2.2⟩
    | ptr b o => exact ⟨hl2.1, isBox_sl.2 hl2.2⟩
    | ept q e' i o =>
      obtain ⟨⟨n1, h1, h2⟩, h3⟩ := hl2
      exact ⟨⟨n1, by rw [hrow]; exact h1, h2⟩, h3⟩
    | hol te e xs i q => exact LR_hol (fun _ h => h) (fun _ _ => rfl) (fun _ _ => rfl) (fun r _ => ⟨rfl, fun n hn => ⟨n, by rw [hrow]; exact hn⟩⟩) hl2
    | clo f bs => exact ⟨hl2.1, fun b hb => isBox_sl.2 (hl2.2 b hb)⟩
    | val t x => exact hl2
    | own te e xs => exact hl2
    | nils => exact hl2
    | vpt t x => exact hl2
    | cst u => exact hl2
    | no => exact hl2
    | und => trivial
  refine { h with
    sh := fun t ht => ?_
    lf := fun q => ?_
    inj := fun o1 o2 b h1 h2 => h.inj _ _ b (hob _ _ h1) (hob _ _ h2)
    fr := fun o b hb => by
      obtain ⟨f1, f2, f3⟩ := h.fr o b (hob _ _ hb)
      exact ⟨f1, by omega, f3⟩
    sb := fun b hb => by
      have := h.sb b hb
      exact ⟨by omega, this.2⟩
    os := hos.trans h.os
    tape := htape.trans h.tape
    drawn := Nat.le_trans h.drawn hdr
    output := hout.trans h.output
    grow := by rw [hsz]; exact h.grow
    frame := fun b h1 h2 => by
      rw [hother b ?_]; exact h.frame b h1 h2
      intro e
      rcases (h.fr _ _ (hbl b e)).2.2 with h3 | h3
      · omega
      · exact h2 h3 }
  · rw [shp_sl]
    have := h.sh t (by simpa using ht)
    have hbx : (gs σ t).shp.isBox = true → w'.heap[g.blk t]? = w.heap[g.blk t]? := fun hx => hother _ (fun e2 => by
      have h1 := box_blk (g := g) (t := t) (σ := σ) hx
      have := h.inj _ _ _ h1 (hbl _ e2)
      cases this)
    revert this hbx
    cases (gs σ t).shp with
    | cs ag n => intro hx _; cases ag <;> exact hx
    | box n => intro hx hbx; exact ⟨hx.1, by rw [hbx rfl]; exact hx.2⟩
    | tup ks n => intro hx _; exact hx
    | itr s i n => intro hx hbx; exact ⟨hx.1, hx.2.1, by rw [hbx rfl]; exact hx.2.2⟩
    | vb n => intro hx _; exact hx
  · rw [hgl q]
    by_cases e1 : p = q
    · subst e1; rw [if_pos rfl]; exact hr
    · rw [if_neg e1]
      refine hLR _ _ (fun hx b hb => hother b (fun e2 => ?_)) (h.lf q)
      have := h.inj _ _ _ (ownBlock_blk (g := g) hx hb) (hbl b e2)
      simp at this; exact e1 this.symm
/-- The same, of plain rows. -/
theorem Rel.setOwn {X : Ctx} {σ : St} {a : Act} {w w' : World} {g : Gh} (h : Rel X σ a w g) {p : Pl} {te te' : TypeId} {e : Ty} {xs xs' : List e.den} (hp : gl σ p = .own te e xs) (hlen : xs'.length = xs.length)
    (hother : ∀ k, (g.c p).ownBlock ≠ some k → w'.heap[k]? = w.heap[k]?) (hos : w'.os = w.os) (htape : w'.tape = w.tape) (hout : w'.output = w.output) (hsz : w'.heap.size = w.heap.size)
    (hdr : w.drawn ≤ w'.drawn) (hr : ownR w' g.S te' e xs' (g.c p)) : Rel X (sl σ p (.own te' e xs')) a w' g :=
  h.setRow (e := e) (n := List.length xs) (by rw [hp]; rfl) (by show some (e, List.length xs') = _; rw [hlen]) hother hos htape hout hsz hdr hr
/-- A hole is filled. -/
theorem stl_cases (σ : St) (p : Pl) : stl σ p = σ ∨ ∃ te e, ∃ xs : List (List e.den), ∃ i q te', ∃ ys : List e.den, gl σ p = .hol te e xs i (some q) ∧ gl σ q = .own te' e ys ∧ stl σ p = sl (frz σ q) p (.own te (.list e) (xs.set i.toNat ys)) := by
  unfold stl
  split
  · rename_i te e xs i q h1
    split
    · rename_i te' e' ys h2
      split
      · rename_i he
        subst he
        exact .inr ⟨_, _, _, _, _, _, _, h1, h2, rfl⟩
      · exact .inl rfl
    · exact .inl rfl
  · exact .inl rfl
@[simp] theorem length_stl (σ : St) (p : Pl) : (stl σ p).length = σ.length := by
  rcases stl_cases σ p with h | ⟨te, e, xs, i, q, te', ys, _, _, h⟩
  · rw [h]
  · rw [h]; simp
theorem Rel.stl {X : Ctx} {σ : St} {a : Act} {w : World} {g : Gh} (h : Rel X σ a w g) (p : Pl) : ∃ g', Rel X (stl σ p) a w g' ∧ g'.c = g.c ∧ g'.blk = g.blk ∧ ∀ b, g.S b → g'.S b := by
  rcases stl_cases σ p with h1 | ⟨te, e, xs, i, q, te', ys, hp, hq, h1⟩
  · rw [h1]; exact ⟨g, h, rfl, rfl, fun _ h => h⟩
  · rw [h1]
    have hr := h.frz hq
    have hpq : q ≠ p := by intro e; subst e; rw [hp] at hq; cases hq
    have hgp : gl (Ev.frz σ q) p = .hol te e xs i none := by
      rw [frz_gl hq, if_neg hpq, hp]
      simp [frP, oqf]
    refine ⟨frG g q, hr.setRow (e := .list e) (n := xs.length) (by rw [hgp]; rfl) (by show some (Ty.list e, (xs.set i.toNat ys).length) = _; rw [List.length_set]) (fun _ _ => rfl) rfl rfl rfl rfl (Nat.le_refl _) ?_, rfl, rfl, fun b hb => .inl hb⟩
    have hlp := h.lf p
    rw [hp] at hlp
    have hlq := h.lf q
    rw [hq] at hlq
    have h2 : holR w (frG g q).S te e xs i (some (g.c q)) (g.c p) := holR_mono (fun b hb => .inl hb) (fun _ _ => rfl) (fun _ h => h) (fun _ _ => rfl) hlp.1
    exact ownR_of_holR h2 (rel_of_ownR hlq (fun b hb => .inl hb) (fun b hb => .inr hb))
end Go.Ev
