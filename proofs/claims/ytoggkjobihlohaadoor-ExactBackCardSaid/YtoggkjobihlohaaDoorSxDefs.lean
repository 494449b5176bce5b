/-
  A symbolic evaluator for the model's code, proved sound once (SxSound). Here: its definitions.
-/
import Derived.WalkKit
import Derived.Deep.Quiet
import Derived.StillTail
import Derived.Laws.BytesArg
namespace Go.Sx
open Go
universe u

/-- A cell's abstract value. -/
inductive At where
  | any
  | un
  | v (x : Value)
  | tt
  | ff
  | p (r i j : Nat)
  | sl (r lo n : Nat)
  | fn (f : FuncId) (caps : List Nat)

inductive C1 where
  | a (x : At)
  | agg (l : List At)

inductive Tm where
  | a (x : At)
  | agg (l : List At)
  | tup (l : List C1)

def C1.tm : C1 → Tm
  | .a x => .a x
  | .agg l => .agg l

/-- How an array's elements lie in cells. -/
structure Kind (α : Type) where
  m : Nat
  d : α
  enc : α → List Value
  upd : α → Nat → Value → Option α

/-- A cell of plain data. -/
inductive CK where
  | int (k : IntKind)
  | bool
def CK.ty : CK → Type
  | .int _ => Int
  | .bool => Bool
def CK.enc : (c : CK) → c.ty → Value
  | .int k, n => .int k n
  | .bool, b => .bool b
def sameKind : IntKind → IntKind → Bool
  | .i8, .i8 | .i16, .i16 | .i32, .i32 | .i64, .i64 | .u8, .u8 | .u16, .u16 | .u32, .u32 | .u64, .u64 => true
  | _, _ => false
def CK.of : (c : CK) → Value → Option c.ty
  | .int k, .int k' n => (match sameKind k k' with | true => some n | false => none)
  | .bool, .bool b => some b
  | _, _ => none
def CK.d : (c : CK) → c.ty
  | .int _ => (0 : Int)
  | .bool => false
/-- An array's element: some cells of plain data. -/
def Tup : List CK → Type
  | [] => Unit
  | [c] => c.ty
  | c :: c' :: cs => c.ty × Tup (c' :: cs)
def Tup.enc : (tg : List CK) → Tup tg → List Value
  | [], _ => []
  | [c], x => [c.enc x]
  | c :: c' :: cs, x => c.enc x.1 :: Tup.enc (c' :: cs) x.2
def Tup.d : (tg : List CK) → Tup tg
  | [] => ()
  | [c] => c.d
  | c :: c' :: cs => (c.d, Tup.d (c' :: cs))
def Tup.upd : (tg : List CK) → Tup tg → Nat → Value → Option (Tup tg)
  | [], _, _, _ => none
  | [c], _, 0, v => c.of v
  | [_], _, _ + 1, _ => none
  | c :: c' :: cs, x, 0, v => (match c.of v with | some y => some ((y, x.2) : c.ty × Tup (c' :: cs)) | none => none)
  | c :: c' :: cs, x, j + 1, v => (match Tup.upd (c' :: cs) x.2 j v with | some y => some ((x.1, y) : c.ty × Tup (c' :: cs)) | none => none)
def kindOf (tg : List CK) : Kind (Tup tg) := { m := tg.length, d := Tup.d tg, enc := Tup.enc tg, upd := Tup.upd tg }

inductive Reg where
  | dead
  | box (own : Bool) (cells : List At)
  | arr (te : TypeId) (tg : List CK) (xs : List (Tup tg)) (own : Bool)

structure St where
  tm : List Tm
  rg : List Reg

inductive Ty where
  | int (k : IntKind)
  | bool
  | str
  | st (fs : List (Nat × Nat)) (n : Nat)
  | sl (e : TypeId) (m : Nat)
  | ar (e : TypeId) (m n : Nat)
  | word
  | other

/-- What must hold, and then. -/
structure Ob (p : Prop) : Prop where
  h : p
def oblige (l : List Prop) (p : Prop) : Prop := List.rec (motive := fun _ => Prop) p (fun q _ ih => Ob q ∧ ih) l

/-- What a call hands back: new regions, and a value that may speak of them (numbered from 0 on). -/
structure Res where
  rg : List Reg
  tm : Tm

inductive Ctr where
  | fn (F : List Tm → List Reg → Option (List Prop × Tm))
  | rel (C : List Tm → List Reg → (Res → Prop) → Prop)

/-- Contracts by the functions' numbers. -/
def look : List (Nat × Ctr) → Nat → Option Ctr
  | [], _ => none
  | (g, c) :: l, f => match Nat.beq g f with | true => some c | false => look l f

/-- The orders of a region's operations: a first one, what may follow it, and the other first ones. -/
inductive OT where
  | fin
  | alt (i : Nat) (t more : OT)

structure Env where
  ty : TypeId → Ty
  zero : TypeId → Option (List At)
  eqs : TypeId → Option Nat
  kd : TypeId → Option (List CK)
  ct : FuncId → Option Ctr
  exact : Bool
  cut : Nat → Bool := fun _ => false
  tree : Nat → Option OT := fun _ => none
  ifc : TypeId → Bool := fun _ => false
  un : Nat := 0

def St.put (st : St) (d : Option Nat) (x : Tm) : St :=
  match d with
  | some d => { st with tm := st.tm.set d x }
  | none => st

/-- A list with one place turned, handed on written out. -/
def setK {α : Type u} (l : List α) (i : Nat) (x : α) (k : List α → Prop) : Prop :=
  List.rec (motive := fun _ => Nat → (List α → Prop) → Prop) (fun _ k => k [])
    (fun a l ih i k => match i with
      | 0 => k (x :: l)
      | i + 1 => ih i (fun l => k (a :: l))) l i k

def appK {α : Type u} (l m : List α) (k : List α → Prop) : Prop :=
  List.rec (motive := fun _ => (List α → Prop) → Prop) (fun k => k m) (fun a _ ih k => ih (fun l => k (a :: l))) l k

/-- A value handed on with its constructors written out. -/
def forceV (x : Value) (k : Value → Prop) : Prop :=
  match x with
  | .bool b => k (.bool b)
  | .int i n => k (.int i n)
  | x => k x
def forceA (x : At) (k : At → Prop) : Prop :=
  match x with
  | .v x => forceV x (fun x => k (.v x))
  | x => k x
def forceAs (l : List At) (k : List At → Prop) : Prop :=
  List.rec (motive := fun _ => (List At → Prop) → Prop) (fun k => k []) (fun x _ ih k => forceA x (fun x => ih (fun l => k (x :: l)))) l k
def forceC (x : C1) (k : C1 → Prop) : Prop :=
  match x with
  | .a x => forceA x (fun x => k (.a x))
  | .agg l => forceAs l (fun l => k (.agg l))
def forceCs (l : List C1) (k : List C1 → Prop) : Prop :=
  List.rec (motive := fun _ => (List C1 → Prop) → Prop) (fun k => k []) (fun x _ ih k => forceC x (fun x => ih (fun l => k (x :: l)))) l k
def forceT (x : Tm) (k : Tm → Prop) : Prop :=
  match x with
  | .a x => forceA x (fun x => k (.a x))
  | .agg l => forceAs l (fun l => k (.agg l))
  | .tup l => forceCs l (fun l => k (.tup l))
def forceR (g : Reg) (k : Reg → Prop) : Prop :=
  match g with
  | .box o l => forceAs l (fun l => k (.box o l))
  | g => k g
def forceRs (l : List Reg) (k : List Reg → Prop) : Prop :=
  List.rec (motive := fun _ => (List Reg → Prop) → Prop) (fun k => k []) (fun x _ ih k => forceR x (fun x => ih (fun l => k (x :: l)))) l k

def lenK {α : Type u} (l : List α) (k : Nat → Prop) : Prop :=
  List.rec (motive := fun _ => (Nat → Prop) → Prop) (fun k => k 0) (fun _ _ ih k => ih (fun n => k (n + 1))) l k

/-- A value into its slot. -/
def St.putK (st : St) (d : Option Nat) (x : Tm) (k : St → Prop) : Prop :=
  match st, d with
  | ⟨tm, rg⟩, some d => forceT x (fun x => setK tm d x (fun tm => k ⟨tm, rg⟩))
  | ⟨tm, rg⟩, none => k ⟨tm, rg⟩

/-- A value handed on under new names for what was reckoned. -/
def nameV (x : Value) (k : Value → Prop) : Prop :=
  match x with
  | .bool b => ∀ c, b = c → k (.bool c)
  | .int i n => ∀ m, n = m → k (.int i m)
  | .string s => ∀ t, s = t → k (.string t)
  | x => k x
def nameA (x : At) (k : At → Prop) : Prop :=
  match x with
  | .v x => nameV x (fun x => k (.v x))
  | x => k x
def nameAs (l : List At) (k : List At → Prop) : Prop :=
  List.rec (motive := fun _ => (List At → Prop) → Prop) (fun k => k []) (fun x _ ih k => nameA x (fun x => ih (fun l => k (x :: l)))) l k
def nameC (x : C1) (k : C1 → Prop) : Prop :=
  match x with
  | .a x => nameA x (fun x => k (.a x))
  | .agg l => nameAs l (fun l => k (.agg l))
def nameCs (l : List C1) (k : List C1 → Prop) : Prop :=
  List.rec (motive := fun _ => (List C1 → Prop) → Prop) (fun k => k []) (fun x _ ih k => nameC x (fun x => ih (fun l => k (x :: l)))) l k
def nameT (x : Tm) (k : Tm → Prop) : Prop :=
  match x with
  | .a x => nameA x (fun x => k (.a x))
  | .agg l => nameAs l (fun l => k (.agg l))
  | .tup l => nameCs l (fun l => k (.tup l))
def nameR (g : Reg) (k : Reg → Prop) : Prop :=
  match g with
  | .arr te tg xs o => ∀ ys, xs = ys → k (.arr te tg ys o)
  | g => k g

/-- Is what an operation yields reckoned anew? -/
def newly (st : St) (o : Oper) : Bool :=
  match o.op with
  | .binOp op _ _ _ _ => (match op with | .add | .sub | .mul | .quo | .rem => true | _ => false)
  | .unOp .neg _ _ => true
  | .convert .. => true
  | .call .. => true
  | .load _ (.tmp t) =>
    (match st.tm.getD t (.a .any) with
     | .a (.p r _ _) => (match st.rg.getD r .dead with | .arr .. => true | _ => false)
     | _ => false)
  | _ => false
def St.putN (st : St) (o : Oper) (x : Tm) (k : St → Prop) : Prop :=
  match newly st o with
  | true => nameT x (fun x => st.putK o.dst x k)
  | false => st.putK o.dst x k

/-- New regions at the end of the list. -/
def St.pushK (st : St) (gs : List Reg) (k : St → Prop) : Prop :=
  match st with
  | ⟨tm, rg⟩ => forceRs gs (fun gs => appK rg gs (fun rg => k ⟨tm, rg⟩))

/-- A region turned. -/
def St.setRK (st : St) (r : Nat) (g : Reg) (k : St → Prop) : Prop :=
  match st with
  | ⟨tm, rg⟩ => forceR g (fun g => setK rg r g (fun rg => k ⟨tm, rg⟩))

def constTm : Value → Option Tm
  | .bool true => some (.a .tt)
  | .bool false => some (.a .ff)
  | .agg _ => none
  | .tuple _ => none
  | x => some (.a (.v x))

def ev (st : St) : Operand → Option Tm
  | .tmp t => some (st.tm.getD t (.a .any))
  | .const x => constTm x
  | .func f => some (.a (.fn f []))
  | .global g => some (.a (.v (.pointer (some ⟨g, 0, none⟩))))

/-- Does it stand for the value of one cell? -/
def At.one : At → Bool
  | .any => false
  | .un => false
  | _ => true
def allL {α : Type} (f : α → Bool) : List α → Bool
  | [] => true
  | x :: l => match f x with | true => allL f l | false => false

/-- The cells of a value that can be stored. -/
def tmCells : Tm → Option (List At)
  | .a x => (match x.one with | true => some [x] | false => none)
  | .agg l => (match allL At.one l with | true => some l | false => none)
  | .tup _ => none

/-- The range of a kind, in plain numerals. -/
def inR : IntKind → Int → Prop
  | .i8, n => -128 ≤ n ∧ n ≤ 127
  | .i16, n => -32768 ≤ n ∧ n ≤ 32767
  | .i32, n => -2147483648 ≤ n ∧ n ≤ 2147483647
  | .i64, n => -9223372036854775808 ≤ n ∧ n ≤ 9223372036854775807
  | .u8, n => 0 ≤ n ∧ n ≤ 255
  | .u16, n => 0 ≤ n ∧ n ≤ 65535
  | .u32, n => 0 ≤ n ∧ n ≤ 4294967295
  | .u64, n => 0 ≤ n ∧ n ≤ 18446744073709551615

def wrapped (E : Env) (pre : List Prop) (k : IntKind) (n : Int) : Option (List Prop × Tm) :=
  match E.exact with
  | true => some (pre ++ [inR k n], .a (.v (.int k n)))
  | false => some (pre, .a (.v (.int k (k.wrap n))))

def bl (b : Bool) : Tm := .a (.v (.bool b))

def evInt (E : Env) (op : BinOp) (k : IntKind) (a b : Int) : Option (List Prop × Tm) :=
  match op with
  | .add => wrapped E [] k (a + b)
  | .sub => wrapped E [] k (a - b)
  | .mul => wrapped E [] k (a * b)
  | .quo => wrapped E [b ≠ 0] k (a.tdiv b)
  | .rem => some ([b ≠ 0], .a (.v (.int k (a.tmod b))))
  | .eql => some ([], bl (a == b))
  | .neq => some ([], bl (a != b))
  | .lss => some ([], bl (decide (a < b)))
  | .leq => some ([], bl (decide (a ≤ b)))
  | .gtr => some ([], bl (decide (a > b)))
  | .geq => some ([], bl (decide (a ≥ b)))
  | _ => none

def boolOf : Tm → Option Bool
  | .a .tt => some true
  | .a .ff => some false
  | .a (.v (.bool b)) => some b
  | _ => none

def lenIs {α : Type} : List α → Nat → Bool
  | [], 0 => true
  | _ :: l, n + 1 => lenIs l n
  | _, _ => false

/-- Cells of equal shape, ints and bools alone, compared one by one. -/
def cellsEq : List At → List At → Option Bool
  | [], [] => some true
  | .v (.int k a) :: xs, .v (.int k' b) :: ys =>
    match sameKind k k', cellsEq xs ys with
    | true, some e => some (a == b && e)
    | _, _ => none
  | _, _ => none

def evBin (E : Env) (op : BinOp) (t : TypeId) (x y : Tm) : Option (List Prop × Tm) :=
  match x, y with
  | .a (.v (.int k a)), .a (.v (.int k' b)) => match sameKind k k' with | true => evInt E op k a b | false => none
  | .a (.v (.string x)), .a (.v (.string y)) =>
    (match op with
     | .add => some ([(x.size + y.size : Nat) ≤ 9223372036854775807], .a (.v (.string (x ++ y))))
     | .eql => some ([], bl (x.toList == y.toList))
     | .neq => some ([], bl (!(x.toList == y.toList)))
     | _ => none)
  | .agg l, .agg l' =>
    match E.eqs t, cellsEq l l' with
    | some n, some e => (match op, lenIs l n with | .eql, true => some ([], bl e) | .neq, true => some ([], bl (!e)) | _, _ => none)
    | _, _ => none
  | x, y =>
    match E.ty t, boolOf x, boolOf y with
    | .bool, some a, some b => (match op with | .eql => some ([], bl (a == b)) | .neq => some ([], bl (!(a == b))) | _ => none)
    | _, _, _ => none

def evUn (E : Env) (op : UnOp) (x : Tm) : Option (List Prop × Tm) :=
  match op, x with
  | .neg, .a (.v (.int k a)) => wrapped E [] k (0 - a)
  | .not, .a .tt => some ([], .a .ff)
  | .not, .a .ff => some ([], .a .tt)
  | .not, .a (.v (.bool b)) => some ([], bl (!b))
  | _, _ => none

def evConv (E : Env) (dst : TypeId) (x : Tm) : Option (List Prop × Tm) :=
  match E.ty dst, x with
  | .int k', .a (.v (.int _ a)) => wrapped E [] k' a
  | _, _ => none

/-- The cells of a region's element, from cell j on, n of them. -/
def cellsAt (g : Reg) (i j n : Nat) : Option (List Prop × List At) :=
  match g with
  | .box _ cells =>
    (match i, lenIs ((cells.drop j).take n) n with
     | 0, true => some ([], (cells.drop j).take n)
     | _, _ => none)
  | .arr te tg xs _ =>
    (match lenIs ((((kindOf tg).enc (xs.getD i (kindOf tg).d)).drop j).take n) n with
     | true => some ([i < xs.length], ((((kindOf tg).enc (xs.getD i (kindOf tg).d)).drop j).take n).map .v)
     | false => none)
  | .dead => none

def evLoad (E : Env) (st : St) (t : TypeId) (addr : Tm) : Option (List Prop × Tm) :=
  match addr with
  | .a (.p r i j) =>
    match E.ty t with
    | .st _ n => (match cellsAt (st.rg.getD r .dead) i j n with | some (q, l) => some (q, .agg l) | none => none)
    | .ar _ m n => (match cellsAt (st.rg.getD r .dead) i j (n * m) with | some (q, l) => some (q, .agg l) | none => none)
    | .other => none
    | _ => (match cellsAt (st.rg.getD r .dead) i j 1 with | some (q, [x]) => some (q, .a x) | _ => none)
  | _ => none

def fillL (cells : List At) (off : Nat) : List At → List At
  | [] => cells
  | x :: xs => fillL (cells.set off x) (off + 1) xs

/-- The cells of a struct literal. -/
def evParts (fs : List (Nat × Nat)) (st : St) : List (Nat × Operand) → List At → Option (List At)
  | [], cells => some cells
  | (i, o) :: rest, cells =>
    match fs[i]?, ev st o with
    | some (off, size), some x =>
      (match tmCells x with
       | some l =>
         (match lenIs l size, Nat.ble (off + size) cells.length with
          | true, true => evParts fs st rest (fillL cells off l)
          | _, _ => none)
       | none => none)
    | _, _ => none

/-- The cells of an array literal. -/
def evPartsA (m : Nat) (st : St) : List (Nat × Operand) → List At → Option (List At)
  | [], cells => some cells
  | (i, o) :: rest, cells =>
    match ev st o with
    | some x =>
      (match tmCells x with
       | some l =>
         (match lenIs l m, Nat.ble (i * m + m) cells.length with
          | true, true => evPartsA m st rest (fillL cells (i * m) l)
          | _, _ => none)
       | none => none)
    | none => none

def evCaps (st : St) : List Operand → Option (List Nat)
  | [] => some []
  | o :: os =>
    match ev st o, evCaps st os with
    | some (.a (.p r 0 0)), some l => some (r :: l)
    | _, _ => none

def evAll (st : St) : List Operand → Option (List Tm)
  | [] => some []
  | o :: os =>
    match ev st o, evAll st os with
    | some x, some l => some (x :: l)
    | _, _ => none

def intOfTm : Tm → Option Int
  | .a (.v (.int _ a)) => some a
  | _ => none

/-- An interface's value against nil. -/
def isNilOp : Operand → Bool
  | .const .nilIface => true
  | _ => false
def evNil (E : Env) (op : BinOp) (t : TypeId) (x : Tm) : Option (List Prop × Tm) :=
  match E.ifc t, x with
  | true, .a (.v .nilIface) => (match op with | .eql => some ([], .a .tt) | .neq => some ([], .a .ff) | _ => none)
  | true, .a (.v (.iface _ _)) => (match op with | .eql => some ([], .a .ff) | .neq => some ([], .a .tt) | _ => none)
  | _, _ => none
/-- A string of bytes. -/
def evBytes (E : Env) (st : St) (e dst : TypeId) (x : Tm) : Option (List Prop × Tm) :=
  match E.ty e, E.ty dst, x with
  | .int .u8, .str, .a (.sl r 0 n) =>
    (match st.rg.getD r .dead with
     | .arr _ [.int .u8] xs _ => some ([n = xs.length], .a (.v (.string (strOfNums xs))))
     | _ => none)
  | _, _, _ => none

/-- An operation that reads at most: what must hold, and its value. -/
def evP (E : Env) (st : St) (o : Oper) : Option (List Prop × Tm) :=
  match o.op with
  | .move x | .assign x => (match ev st x with | some x => some ([], x) | none => none)
  | .pick c a b =>
    (match ev st c, ev st a, ev st b with
     | some (.a .tt), some x, _ => some ([], x)
     | some (.a .ff), _, some y => some ([], y)
     | some (.a (.v (.bool c))), some x, some y =>
       (match boolOf x, boolOf y with
        | some x, some y => some ([], bl (if c then x else y))
        | _, _ => none)
     | _, _, _ => none)
  | .load t a => (match ev st a with | some a => evLoad E st t a | none => none)
  | .binOp op t x y _ =>
    (match isNilOp y with
     | true => (match ev st x with | some x => evNil E op t x | none => none)
     | false => (match ev st x, ev st y with | some x, some y => evBin E op t x y | _, _ => none))
  | .unOp op _ x => (match ev st x with | some x => evUn E op x | none => none)
  | .convert src dst x => (match E.ty src, ev st x with | .int _, some x => evConv E dst x | .sl e _, some x => evBytes E st e dst x | _, _ => none)
  | .fieldAddr s x f =>
    (match E.ty s, ev st x with
     | .st fs _, some (.a (.p r i j)) => (match fs[f]? with | some (off, _ + 1) => some ([], .a (.p r i (j + off))) | _ => none)
     | _, _ => none)
  | .indexAddr t x ix =>
    (match E.ty t, ev st x, ev st ix with
     | .sl _ m, some (.a (.sl r lo n)), some (.a (.v (.int _ i))) =>
       (match st.rg.getD r .dead with
        | .arr _ tg _ _ => (match Nat.beq (kindOf tg).m m with | true => some ([0 ≤ i ∧ i < n], .a (.p r (lo + i.toNat) 0)) | false => none)
        | _ => none)
     | .ar _ m n, some (.a (.p r a j)), some (.a (.v (.int _ i))) => some ([0 ≤ i ∧ i < n], .a (.p r a (j + i.toNat * m)))
     | _, _, _ => none)
  | .index t x ix =>
    (match E.ty t, ev st x, ev st ix with
     | .ar e m n, some (.agg l), some (.a (.v (.int _ i))) =>
       (match E.ty e with
        | .st _ _ => some ([0 ≤ i ∧ i < n], .agg ((l.drop (i.toNat * m)).take m))
        | _ => none)
     | .str, some (.a (.v (.string s))), some (.a (.v (.int _ i))) => some ([0 ≤ i ∧ i < s.size], .a (.v (.int .u8 ((s.data.getD i.toNat 0).toNat))))
     | _, _, _ => none)
  | .slice t x (some ix) none none =>
    (match E.ty t, ev st x, ev st ix with
     | .sl _ m, some (.a (.sl r lo n)), some (.a (.v (.int _ i))) =>
       (match st.rg.getD r .dead with
        | .arr _ tg _ _ => (match Nat.beq (kindOf tg).m m with | true => some ([0 ≤ i ∧ i ≤ n], .a (.sl r (lo + i.toNat) (n - i.toNat))) | false => none)
        | _ => none)
     | _, _, _ => none)
  | .extract t i => (match ev st t with | some (.tup l) => (match l[i]? with | some c => some ([], c.tm) | none => none) | _ => none)
  | .build t parts =>
    (match E.ty t, E.zero t with
     | .st fs n, some z => (match lenIs z n, evParts fs st parts.toList z with | true, some l => some ([], .agg l) | _, _ => none)
     | .ar _ m n, some z => (match lenIs z (n * m), evPartsA m st parts.toList z with | true, some l => some ([], .agg l) | _, _ => none)
     | _, _ => none)
  | .makeFunc fn first caps =>
    (match fn, first.toList, evCaps st caps.toList with
     | .func f, [], some l => some ([], .a (.fn f l))
     | _, _, _ => none)
  | .call c =>
    (match c.callee with
     | .builtin .len =>
       (match c.args.toList, c.argTypes.toList with
        | [x], [t] =>
          (match E.ty t, ev st x with
           | .sl _ _, some (.a (.sl _ _ n)) => some ([], .a (.v (.int .i64 n)))
           | .sl _ _, some (.a (.v (.slice none n _))) => some ([], .a (.v (.int .i64 n)))
           | .str, some (.a (.v (.string s))) => some ([], .a (.v (.int .i64 s.size)))
           | _, _ => none)
        | _, _ => none)
     | .builtin .min =>
       (match c.args.toList with
        | [x, y] => (match ev st x, ev st y with | some (.a (.v (.int k m))), some (.a (.v (.int _ n))) => some ([], .a (.v (.int k (if n < m then n else m)))) | _, _ => none)
        | _ => none)
     | .builtin .max =>
       (match c.args.toList with
        | [x, y] => (match ev st x, ev st y with | some (.a (.v (.int k m))), some (.a (.v (.int _ n))) => some ([], .a (.v (.int k (if n > m then n else m)))) | _, _ => none)
        | _ => none)
     | _ => none)
  | _ => none


/-! ### Operations that write or make memory -/

/-- Writing cells into an array's element. -/
def updAll {α : Type} (K : Kind α) (a : α) (j : Nat) : List At → Option α
  | [] => some a
  | .v x :: xs => (match K.upd a j x with | some a' => updAll K a' (j + 1) xs | none => none)
  | .tt :: xs => (match K.upd a j (.bool true) with | some a' => updAll K a' (j + 1) xs | none => none)
  | .ff :: xs => (match K.upd a j (.bool false) with | some a' => updAll K a' (j + 1) xs | none => none)
  | _ => none

def putCells (g : Reg) (i j : Nat) (l : List At) : Option (List Prop × Reg) :=
  match g with
  | .box true cells => (match i, Nat.ble (j + l.length) cells.length with | 0, true => some ([], .box true (fillL cells j l)) | _, _ => none)
  | .arr te tg xs true => (match updAll (kindOf tg) (xs.getD i (kindOf tg).d) j l with | some a => some ([i < xs.length], .arr te tg (xs.set i a) true) | none => none)
  | _ => none

/-- The number of cells of a type. -/
def Ty.cells : Ty → Nat
  | .st _ n => n
  | .ar _ m n => n * m
  | _ => 1

/-- A change of memory: which region becomes what. -/
def evStore (E : Env) (st : St) (t : TypeId) (addr x : Tm) : Option (List Prop × Nat × Reg) :=
  match addr, tmCells x with
  | .a (.p r i j), some l =>
    (match E.ty t with
     | .other => none
     | ty =>
       (match lenIs l ty.cells, putCells (st.rg.getD r .dead) i j l with
        | true, some (q, g) => some (q, r, g)
        | _, _ => none))
  | _, _ => none

/-- An array's element out of cells. -/
def CK.ofAt (c : CK) : At → Option c.ty
  | .v x => c.of x
  | .tt => c.of (.bool true)
  | .ff => c.of (.bool false)
  | _ => none
def ofCells : (tg : List CK) → List At → Option (Tup tg)
  | [], [] => some ()
  | [c], [x] => c.ofAt x
  | c :: c' :: cs, x :: xs => (match c.ofAt x, ofCells (c' :: cs) xs with | some y, some z => some ((y, z) : c.ty × Tup (c' :: cs)) | _, _ => none)
  | _, _ => none

/-- The elements of a slice literal. -/
def evElems (st : St) (tg : List CK) (xs : List (Tup tg)) : List (Nat × Operand) → Option (List (Tup tg))
  | [] => some xs
  | (i, o) :: rest =>
    match ev st o with
    | some x =>
      (match tmCells x with
       | some l =>
         (match ofCells tg l, Nat.blt i xs.length with
          | some a, true => evElems st tg (xs.set i a) rest
          | _, _ => none)
       | none => none)
    | none => none
/-- The same where all elements are given, in their order. -/
def evLit (st : St) (tg : List CK) : Nat → List (Nat × Operand) → Option (List (Tup tg))
  | _, [] => some []
  | pos, (i, o) :: rest =>
    match ev st o with
    | some x =>
      (match tmCells x with
       | some l =>
         (match Nat.beq i pos, ofCells tg l, evLit st tg (pos + 1) rest with
          | true, some a, some xs => some (a :: xs)
          | _, _, _ => none)
       | none => none)
    | none => none

/-- What an operation that makes or writes memory does: a new region (a pointer to it, or a slice over it of so many elements), or a region turned. -/
inductive Eff where
  | new (g : Reg) (n : Option Nat)
  | set (r : Nat) (g : Reg)
  | app (r : Nat) (g : Reg)

def kindEq : (k k' : IntKind) → Option (PLift (k = k'))
  | .i8, .i8 => some ⟨rfl⟩ | .i16, .i16 => some ⟨rfl⟩ | .i32, .i32 => some ⟨rfl⟩ | .i64, .i64 => some ⟨rfl⟩
  | .u8, .u8 => some ⟨rfl⟩ | .u16, .u16 => some ⟨rfl⟩ | .u32, .u32 => some ⟨rfl⟩ | .u64, .u64 => some ⟨rfl⟩
  | _, _ => none
def ckEq : (c c' : CK) → Option (PLift (c = c'))
  | .bool, .bool => some ⟨rfl⟩
  | .int k, .int k' => (match kindEq k k' with | some h => some ⟨congrArg CK.int h.down⟩ | none => none)
  | _, _ => none
def tagEq : (l l' : List CK) → Option (PLift (l = l'))
  | [], [] => some ⟨rfl⟩
  | c :: l, c' :: l' => (match ckEq c c', tagEq l l' with | some h, some h' => some ⟨by rw [h.down, h'.down]⟩ | _, _ => none)
  | _, _ => none
def castL {tg tg' : List CK} (h : tg = tg') (xs : List (Tup tg)) : List (Tup tg') := h ▸ xs

/-- What an append appends: elements of another array. -/
def newsOf (tg : List CK) (g : Reg) (lo n : Nat) : Option (List Prop × List (Tup tg)) :=
  match g with
  | .arr _ tg2 ys _ => (match tagEq tg2 tg with | some h => some ([0 < n, lo + n ≤ ys.length], ((castL h.down ys).drop lo).take n) | none => none)
  | _ => none
def evApp (E : Env) (st : St) (t : TypeId) (s x : Tm) : Option (List Prop × Eff) :=
  match E.ty t, x with
  | .sl e _, .a (.sl r2 lo n) =>
    (match E.kd e with
     | some tg =>
       (match s with
        | .a (.v (.slice none 0 0)) =>
          (match newsOf tg (st.rg.getD r2 .dead) lo n with
           | some (q, news) => some (q ++ [n * (kindOf tg).m ≤ 1099511627776], .new (.arr e tg news true) (some n))
           | none => none)
        | .a (.sl r 0 k) =>
          (match st.rg.getD r .dead with
           | .arr e' tg' xs true =>
             (match Nat.beq r r2, Nat.beq e e', tagEq tg tg', newsOf tg' (st.rg.getD r2 .dead) lo n with
              | false, true, some _, some (q, news) => some (q ++ [k = xs.length, (k + n) * (kindOf tg').m ≤ 1099511627776], .app r (.arr e' tg' (xs ++ news) true))
              | _, _, _, _ => none)
           | _ => none)
        | _ => none)
     | none => none)
  | _, _ => none

/-- Whatever speaks of a region is forgotten. -/
def memN (r : Nat) : List Nat → Bool
  | [] => false
  | x :: l => match Nat.beq x r with | true => true | false => memN r l
def At.kill (r : Nat) : At → At
  | .p r' i j => match Nat.beq r' r with | true => .any | false => .p r' i j
  | .sl r' lo n => match Nat.beq r' r with | true => .any | false => .sl r' lo n
  | .fn f l => match memN r l with | true => .any | false => .fn f l
  | x => x
def C1.kill (r : Nat) : C1 → C1
  | .a x => .a (x.kill r)
  | .agg l => .agg (l.map (At.kill r))
def Tm.kill (r : Nat) : Tm → Tm
  | .a x => .a (x.kill r)
  | .agg l => .agg (l.map (At.kill r))
  | .tup l => .tup (l.map (C1.kill r))
def Reg.kill (r : Nat) : Reg → Reg
  | .box o l => .box o (l.map (At.kill r))
  | g => g
def killTs (r : Nat) (l : List Tm) (k : List Tm → Prop) : Prop :=
  List.rec (motive := fun _ => (List Tm → Prop) → Prop) (fun k => k []) (fun x _ ih k => forceT (x.kill r) (fun x => ih (fun l => k (x :: l)))) l k
def killRs (r : Nat) (l : List Reg) (k : List Reg → Prop) : Prop :=
  List.rec (motive := fun _ => (List Reg → Prop) → Prop) (fun k => k []) (fun x _ ih k => forceR (x.kill r) (fun x => ih (fun l => k (x :: l)))) l k
def Reg.count : Reg → Nat
  | .arr _ _ xs _ => xs.length
  | _ => 0

/-- An operation that makes or writes memory, no call. -/
def evM (E : Env) (st : St) (o : Oper) : Option (List Prop × Eff) :=
  match o.op with
  | .box t x =>
    (match ev st x, E.ty t with
     | some _, .other => none
     | some x, ty =>
       (match tmCells x with
        | some l => (match lenIs l ty.cells with | true => some ([], .new (.box true l) none) | false => none)
        | none => none)
     | none, _ => none)
  | .alloc t =>
    (match E.ty t, E.zero t with
     | .other, _ => none
     | _, some z => some ([], .new (.box true z) none)
     | _, none => none)
  | .store t a x =>
    (match ev st a, ev st x with
     | some a, some x => (match evStore E st t a x with | some (q, r, g) => some (q, .set r g) | none => none)
     | _, _ => none)
  | .buildSlice t n parts =>
    (match E.ty t with
     | .sl e _ =>
       (match E.kd e with
        | some tg => (match evLit st tg 0 parts.toList with
           | some xs => (match lenIs xs n with | true => some ([0 < n, n * (kindOf tg).m ≤ 16777216], .new (.arr e tg xs true) (some n)) | false => none)
           | none => none)
        | none => none)
     | _ => none)
  | .call c =>
    (match c.callee with
     | .builtin .append =>
       (match c.args.toList, c.argTypes.toList with
        | [s, x], [t, t'] => (match Nat.beq t t', ev st s, ev st x with | true, some s, some x => evApp E st t s x | _, _, _ => none)
        | _, _ => none)
     | _ => none)
  | _ => none

def St.effK (st : St) (d : Option Nat) (f : Eff) (k : St → Prop) : Prop :=
  match f with
  | .new g n => lenK st.rg (fun r => st.pushK [g] (fun st => st.putK d (match n with | none => .a (.p r 0 0) | some n => .a (.sl r 0 n)) k))
  | .set r g => nameR g (fun g => st.setRK r g (fun st => st.putK d (.a .un) k))
  | .app r g => nameR g (fun g => killTs r st.tm (fun tm => killRs r st.rg (fun rg => St.setRK ⟨tm, rg⟩ r g (fun st => st.putK d (.a (.sl r 0 g.count)) k))))

def evCallee (st : St) (f : Operand) : Option (FuncId × List Tm) :=
  match ev st f with
  | some (.a (.fn f caps)) => some (f, caps.map fun r => .a (.p r 0 0))
  | _ => none

def At.ren (f : Nat → Nat) : At → At
  | .p r i j => .p (f r) i j
  | .sl r lo n => .sl (f r) lo n
  | .fn g l => .fn g (l.map f)
  | x => x
def C1.ren (f : Nat → Nat) : C1 → C1
  | .a x => .a (x.ren f)
  | .agg l => .agg (l.map (At.ren f))
def Tm.ren (f : Nat → Nat) : Tm → Tm
  | .a x => .a (x.ren f)
  | .agg l => .agg (l.map (At.ren f))
  | .tup l => .tup (l.map (C1.ren f))

def Res.intoK (st : St) (d : Option Nat) (res : Res) (k : St → Prop) : Prop :=
  lenK st.rg (fun n => st.pushK res.rg (fun st => st.putK d (res.tm.ren (fun r => n + r)) k))

/-- A call of a Go function by its contract. -/
def evCall (E : Env) (st : St) (o : Oper) (c : Call) (K : St → Prop) : Prop :=
  match c.callee with
  | .value f =>
    (match evCallee st f, evAll st c.args.toList with
     | some (f, caps), some args =>
       (match E.ct f with
        | some (.fn F) => (match F (args ++ caps) st.rg with | some (q, t) => oblige q (st.putN o t K) | none => False)
        | some (.rel C) => C (args ++ caps) st.rg (fun res => res.intoK st o.dst K)
        | none => False)
     | _, _ => False)
  | _ => False

def evOp (E : Env) (st : St) (o : Oper) (K : St → Prop) : Prop :=
  match evP E st o with
  | some (q, x) => oblige q (st.putN o x K)
  | none =>
    match evM E st o with
    | some (q, f) => oblige q (st.effK o.dst f K)
    | none =>
      match o.op with
      | .call c => evCall E st o c K
      | _ => False

/-- A guard, decided or split. -/
def evGuard (st : St) (ops : Array Oper) (g : Option (Nat × Bool)) (yes no : St → Prop) : Prop :=
  match g with
  | none => yes st
  | some (j, want) =>
    match (ops[j]?).bind (·.dst) with
    | none => False
    | some d =>
      match st.tm.getD d (.a .any) with
      | .a .un => no st
      | .a .tt => (match want with | true => yes st | false => no st)
      | .a .ff => (match want with | true => no st | false => yes st)
      | .a (.v (.bool b)) =>
        (match want with
         | true => (b = true → st.putK (some d) (.a .tt) yes) ∧ (b = false → st.putK (some d) (.a .ff) no)
         | false => (b = true → st.putK (some d) (.a .tt) no) ∧ (b = false → st.putK (some d) (.a .ff) yes))
      | _ => False

def evOps (E : Env) (ops : Array Oper) (l : List Oper) : St → (St → Prop) → Prop :=
  List.rec (motive := fun _ => St → (St → Prop) → Prop) (fun st K => K st)
    (fun o _ ih st K => evGuard st ops o.guard (fun st => evOp E st o (fun st => ih st K)) (fun st => st.putK o.dst (.a .un) (fun st => ih st K))) l

/-! ### Regions that draw their order: a quiet head, then a forced tail -/

def At.sure : At → Bool
  | .any => false
  | .sl _ lo _ => Nat.beq lo 0
  | _ => true
def C1.sure : C1 → Bool
  | .a x => x.sure
  | .agg l => allL At.sure l
def Tm.sure : Tm → Bool
  | .a x => x.sure
  | .agg l => allL At.sure l
  | .tup l => allL C1.sure l

/-- What must hold, and the value, of an operation that reads or calls a function that has a functional contract. -/
def evQ1 (E : Env) (st : St) (o : Oper) : Option (List Prop × Tm) :=
  match evP E st o with
  | some qx => some qx
  | none =>
    match o.op with
    | .call c =>
      (match c.callee with
       | .value f =>
         (match evCallee st f, evAll st c.args.toList with
          | some (f, caps), some args =>
            (match E.ct f with
             | some (.fn F) => F (args ++ caps) st.rg
             | _ => none)
          | _, _ => none)
       | _ => none)
    | _ => none

def evQ (E : Env) (ops : Array Oper) (l : List Oper) : St → (St → Prop) → Prop :=
  List.rec (motive := fun _ => St → (St → Prop) → Prop) (fun st K => K st)
    (fun o _ ih st K => evGuard st ops o.guard
      (fun st => match evQ1 E st o with
        | some (q, x) => oblige q (match x.sure with | true => st.putN o x (fun st => ih st K) | false => False)
        | none => False)
      (fun st => st.putK o.dst (.a .un) (fun st => ih st K))) l

/-- Is it an operation of a quiet head, by its form? -/
def quietOp (o : Oper) : Bool :=
  match o.op with
  | .box .. | .alloc .. | .store .. | .buildSlice .. | .makeSlice .. | .makeMap .. | .mapUpdate .. | .lookup .. => false
  | .call { callee := .builtin .append, .. } => false
  | .call { callee := .builtin .copy, .. } => false
  | _ => true

def headLen : List Oper → Nat
  | [] => 0
  | o :: l => match quietOp o with | true => headLen l + 1 | false => 0

structure LexB (l : List Oper) : Prop where
  h : Region.lexB .any l.toArray = true
def stepB (ops : Array Oper) (k : Nat) (listed : Array Bool) : Bool :=
  (Region.ready .any ops listed).contains k && (decide (Region.ready .any ops listed = [k]) || Region.free .any ops listed k)
def upTo (ops : Array Oper) : Nat → Array Bool
  | 0 => Array.replicate ops.size false
  | k + 1 => (upTo ops k).setIfInBounds k true
def forcedB (ops : Array Oper) (k : Nat) : Bool := decide (Region.ready .any ops (upTo ops k) = [k])
/-- The tail waits, or there is none. -/
def tailB (ops : Array Oper) (n : Nat) : Bool := Nat.beq n ops.size || (decide (n < ops.size) && Region.sinkB .any ops n && Region.chainB .any ops n)
def lexGB (ops : Array Oper) (n : Nat) : Bool :=
  Region.noSelect ops && decide (n ≤ ops.size) && tailB ops n && (List.range n).all (fun k => stepB ops k (upTo ops k)) && Region.seqB .any ops (ops.size - n) n (upTo ops n)
structure LexG (l : List Oper) (n : Nat) : Prop where
  h : lexGB l.toArray n = true
structure Forced (l : List Oper) (k : Nat) : Prop where
  h : forcedB l.toArray k = true

/-- Does it leave old memory alone? -/
def notStore (o : Oper) : Bool :=
  match o.op with
  | .store .. => false
  | .call { callee := .builtin .append, .. } => false
  | _ => true
def storeAt : List Oper → Nat
  | [] => 0
  | o :: l => match notStore o with | true => storeAt l + 1 | false => 0

def evG (E : Env) (l : List Oper) (ops : Array Oper) (hd : List Oper) : Nat → St → (St → Prop) → Prop :=
  List.rec (motive := fun _ => Nat → St → (St → Prop) → Prop) (fun _ st K => K st)
    (fun o _ ih k st K => evGuard st ops o.guard
      (fun st => match evQ1 E st o with
        | some (q, x) => (match x.sure with | true => oblige q (st.putN o x (fun st => ih (k + 1) st K)) | false => False)
        | none => Forced l k ∧ evOp E st o (fun st => ih (k + 1) st K))
      (fun st => st.putK o.dst (.a .un) (fun st => ih (k + 1) st K))) hd

/-! ### Regions that draw: every order, by a tree -/
def OT.heads : OT → List Nat
  | .fin => []
  | .alt i _ m => i :: OT.heads m
def OT.isFin : OT → Bool
  | .fin => true
  | .alt .. => false
def OT.next (t : OT) (p q : Prop) : Prop :=
  match t with
  | .fin => p
  | .alt .. => q
def okAlts (ops : Array Oper) : OT → Nat → Array Bool → Bool
  | .fin, _, _ => true
  | .alt i t m, n, listed =>
    decide (OT.heads t = Region.ready .any ops (listed.setIfInBounds i true)) && (OT.isFin t || (decide (n ≠ 0) && okAlts ops t (n - 1) (listed.setIfInBounds i true))) && okAlts ops m n listed
def okTree (ops : Array Oper) (t : OT) : Bool :=
  decide (OT.heads t = Region.ready .any ops (Array.replicate ops.size false)) && (!OT.isFin t && (decide (ops.size ≠ 0) && okAlts ops t (ops.size - 1) (Array.replicate ops.size false)))
structure LexT (l : List Oper) (t : OT) : Prop where
  h : okTree l.toArray t = true
def evAlts (E : Env) (l : List Oper) (ops : Array Oper) (K : St → Prop) (t : OT) : St → Prop :=
  OT.rec (motive := fun _ => St → Prop) (fun _ => True)
    (fun i t _ it im st =>
      (match l[i]? with
       | some o => evGuard st ops o.guard (fun st => evOp E st o (fun st => OT.next t (K st) (it st))) (fun st => st.putK o.dst (.a .un) (fun st => OT.next t (K st) (it st)))
       | none => False) ∧ im st) t

def evDraw (E : Env) (id : Nat) (l : List Oper) (st : St) (K : St → Prop) : Prop :=
  match E.tree id with
  | some t => LexT l t ∧ evAlts E l l.toArray K t st
  | none =>
  match Nat.beq (headLen l) l.length with
  | true => LexB l ∧ evQ E l.toArray l st K
  | false => LexG l (storeAt l) ∧ evG E l l.toArray (l.take (storeAt l)) 0 st (fun st => evOps E l.toArray (l.drop (storeAt l)) st K)

/-! ### Code -/

inductive Ex where
  | normal
  | exit (id : Nat)
  | ret

/-- st is at least as much known as st'. (m: how many regions st has, n: how many st' has; what st' has more are arrays of no element, to which nil slices point.) -/
def leA (m n : Nat) : At → At → Prop
  | _, .any => True
  | .un, .un => True
  | .v (.slice none 0 0), .sl r' _ k => m ≤ r' ∧ r' < n ∧ k = 0
  | .v x, .v y => x = y
  | .tt, .tt => True
  | .ff, .ff => True
  | .tt, .v (.bool b) => b = true
  | .ff, .v (.bool b) => b = false
  | .p r i j, .p r' i' j' => r' < n ∧ r < m ∧ r = r' ∧ i = i' ∧ j = j'
  | .sl r lo k, .sl r' lo' k' => r' < n ∧ r < m ∧ r = r' ∧ lo = lo' ∧ k = k'
  | .fn f l, .fn f' l' => f = f' ∧ l = l' ∧ ∀ r ∈ l', r < n ∧ r < m
  | _, _ => False
def leAs (m n : Nat) : List At → List At → Prop
  | [], [] => True
  | x :: xs, y :: ys => leA m n x y ∧ leAs m n xs ys
  | _, _ => False
def leC (m n : Nat) : C1 → C1 → Prop
  | .a x, .a y => leA m n x y
  | .agg l, .agg l' => leAs m n l l'
  | _, _ => False
def leCs (m n : Nat) : List C1 → List C1 → Prop
  | [], [] => True
  | x :: xs, y :: ys => leC m n x y ∧ leCs m n xs ys
  | _, _ => False
def leT (m n : Nat) : Tm → Tm → Prop
  | _, .a .any => True
  | .a x, .a y => leA m n x y
  | .agg l, .agg l' => leAs m n l l'
  | .tup l, .tup l' => leCs m n l l'
  | _, _ => False
def leTs (m n : Nat) : List Tm → List Tm → Prop
  | [], [] => True
  | x :: xs, y :: ys => leT m n x y ∧ leTs m n xs ys
  | _, _ => False
def leR (m n : Nat) : Reg → Reg → Prop
  | _, .dead => True
  | .box o l, .box o' l' => o = o' ∧ leAs m n l l'
  | g, g' => g = g'
/-- An array of no element. -/
def nilR : Reg → Prop
  | .dead => True
  | .arr _ tg xs _ => xs = [] ∧ tg ≠ []
  | _ => False
def leRs (m n : Nat) : List Reg → List Reg → Prop
  | _, [] => True
  | x :: xs, y :: ys => leR m n x y ∧ leRs m n xs ys
  | [], y :: ys => nilR y ∧ leRs m n [] ys
def Le (st st' : St) : Prop := lenK st.rg (fun m => lenK st'.rg (fun n => leTs m n st.tm st'.tm ∧ leRs m n st.rg st'.rg))

/-- A loop by an invariant over a family of states. -/
def LoopInv (F : St → (Ex → St → Prop) → Prop) (st : St) (K : Ex → St → Prop) : Prop :=
  ∃ (X : Type) (I : X → Prop) (S : X → St) (μ : X → Nat) (x0 : X), I x0 ∧ Le st (S x0) ∧
    ∀ x, I x → F (S x) (fun e st' => match e with
      | .normal => ∃ x', I x' ∧ Le st' (S x') ∧ μ x' < μ x
      | e => K e st')

/-- A loop that ends within so many rounds. -/
def roundsK (f : St → (Ex → St → Prop) → Prop) (n : Nat) : St → (Ex → St → Prop) → Prop :=
  Nat.rec (motive := fun _ => St → (Ex → St → Prop) → Prop) (fun _ _ => False)
    (fun _ ih st K => f st (fun e st' => match e with | .normal => ih st' K | e => K e st')) n
/-- A loop: by rounds, if so many are told, else by an invariant. -/
def evLoop (f : St → (Ex → St → Prop) → Prop) (n : Nat) (st : St) (K : Ex → St → Prop) : Prop :=
  match n with
  | 0 => LoopInv f st K
  | n + 1 => roundsK f (n + 1) st K

/-- The slots that a piece of code writes are forgotten. -/
def forgetOps (l : List Oper) : List Tm → (List Tm → Prop) → Prop :=
  List.rec (motive := fun _ => List Tm → (List Tm → Prop) → Prop) (fun tm k => k tm)
    (fun o _ ih tm k => match o.dst with | some d => setK tm d (.a .any) (fun tm => ih tm k) | none => ih tm k) l
def forgetK (c : Code) : List Tm → (List Tm → Prop) → Prop :=
  Code.rec (motive := fun _ => List Tm → (List Tm → Prop) → Prop)
    (fun tm k => k tm)
    (fun _ ops _ tm k => forgetOps ops.toList tm k)
    (fun _ _ fa fb tm k => fa tm (fun tm => fb tm k))
    (fun _ _ _ fa fb tm k => fa tm (fun tm => fb tm k))
    (fun _ _ f tm k => f tm k)
    (fun _ f tm k => f tm k)
    (fun _ _ _ _ _ _ tm k => k tm)
    (fun _ tm k => k tm)
    (fun _ f tm k => f tm k) (fun _ tm k => k tm) (fun _ tm k => k tm)
    (fun tm k => k tm)
    (fun _ tm k => k tm) c
/-- Is it an 'if' behind which the ways are to meet? -/
def Env.cuts (E : Env) : Code → Bool
  | .seq _ (.cond (.tmp t) _ _) => E.cut t
  | _ => false

def evC (E : Env) (c : Code) : St → (Ex → St → Prop) → Prop :=
  Code.rec (motive := fun _ => St → (Ex → St → Prop) → Prop)
    (fun st K => K .normal st)
    (fun id ops draw st K => match draw with
      | true => evDraw E id ops.toList st (K .normal)
      | false => evOps E ops ops.toList st (K .normal))
    (fun a _ fa fb st K => match E.cuts a with
      | true => (match st with | ⟨tm, rg⟩ => forgetK a tm (fun tm' => fa ⟨tm, rg⟩ (fun e st' => match e with | .normal => Le st' ⟨tm', rg⟩ | e => K e st') ∧ fb ⟨tm', rg⟩ K))
      | false => fa st (fun e st => match e with | .normal => fb st K | e => K e st))
    (fun c _ _ fa fb st K => match ev st c with
      | some (.a .tt) => fa st K
      | some (.a .ff) => fb st K
      | some (.a (.v (.bool t))) => (t = true → fa st K) ∧ (t = false → fb st K)
      | _ => False)
    (fun id _ f st K => f st (fun e st => match e with
      | .exit id' => (match Nat.beq id id' with | true => K .normal st | false => K (.exit id') st)
      | e => K e st))
    (fun _ f st K => evLoop f E.un st K)
    (fun _ _ _ _ _ _ _ _ => False)
    (fun id st K => K (.exit id) st)
    (fun _ _ _ _ => False) (fun _ _ _ => False) (fun _ _ _ => False)
    (fun st K => K .ret st)
    (fun _ _ _ => False) c

/-- The results of a function, out of its last state. -/
def evRes1 (E : Env) (st : St) : ResultVar → Option (List Prop × Tm)
  | .tmp t => some ([], st.tm.getD t (.a .any))
  | .cell a t => evLoad E st t (st.tm.getD a (.a .any))

def c1Of : Tm → Option C1
  | .a x => some (.a x)
  | .agg l => some (.agg l)
  | .tup _ => none

def evResL (E : Env) (st : St) : List ResultVar → Option (List Prop × List C1)
  | [] => some ([], [])
  | r :: rs =>
    match evRes1 E st r, evResL E st rs with
    | some (q, t), some (q', l) => (match c1Of t with | some c => some (q ++ q', c :: l) | none => none)
    | _, _ => none

def evRes (E : Env) (st : St) (rs : List ResultVar) : Option (List Prop × Tm) :=
  match rs with
  | [r] => evRes1 E st r
  | rs => (match evResL E st rs with | some (q, l) => some (q, .tup l) | none => none)

/-- One abstract value against the expected one. -/
def eqA : At → At → Prop
  | .tt, .tt => True
  | .ff, .ff => True
  | .tt, .v (.bool b) => b = true
  | .ff, .v (.bool b) => b = false
  | .v (.bool b), .tt => b = true
  | .v (.bool b), .ff => b = false
  | _, .any => True
  | .p r i j, .p r' i' j' => r = r' ∧ i = i' ∧ j = j'
  | .sl r lo n, .sl r' lo' n' => r = r' ∧ lo = lo' ∧ n = n'
  | .fn f l, .fn f' l' => f = f' ∧ l = l'
  | .un, .un => True
  | .v (.int k a), .v (.int k' b) => k = k' ∧ a = b
  | .v (.bool a), .v (.bool b) => a = b
  | .v x, .v y => x = y
  | _, _ => False
def eqAs : List At → List At → Prop
  | [], [] => True
  | x :: xs, y :: ys => eqA x y ∧ eqAs xs ys
  | _, _ => False
def eqC : C1 → C1 → Prop
  | .a x, .a y => eqA x y
  | .agg l, .agg l' => eqAs l l'
  | _, _ => False
def eqCs : List C1 → List C1 → Prop
  | [], [] => True
  | x :: xs, y :: ys => eqC x y ∧ eqCs xs ys
  | _, _ => False
def eqT : Tm → Tm → Prop
  | .a x, .a y => eqA x y
  | .agg l, .agg l' => eqAs l l'
  | .tup l, .tup l' => eqCs l l'
  | _, _ => False

/-- A function's body by its functional contract's value. -/
def evFn (E : Env) (rs : List ResultVar) (c : Code) (st : St) (t : Tm) : Prop :=
  evC E c st (fun e st' => match e with
    | .exit _ => False
    | _ => (match evRes E st' rs with | some (q, x) => oblige q (eqT x t) | none => False))

end Go.Sx
