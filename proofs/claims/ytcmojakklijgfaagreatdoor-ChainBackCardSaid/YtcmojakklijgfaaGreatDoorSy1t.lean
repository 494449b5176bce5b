/-
  Texts of the claims: Sy1t. No condition: lemmas and contracts.
-/
import Derived.WalkKit
import Derived.Deep.Quiet
import Derived.StillTail
import Derived.Laws.BytesArg
import Derived.Laws.Tables
import Derived.Laws.Small
import Derived.Laws.IdiomCopy
import Derived.MapKept
import Derived.Maps.RangeRun
import Derived.Laws.StructEq
set_option linter.all false
set_option maxRecDepth 100000
set_option maxHeartbeats 4000000
section
namespace Go.Sy
open Go
universe u
structure Duty where
 p : Prop
 b : Bool
 h : b = true ↔ p
def Duty.of (p : Prop) [d : Decidable p] : Duty:=⟨p,@Decidable.decide p d,decide_eq_true_iff⟩
abbrev Path:=List (Nat × Nat)
inductive At where
 | any
 | un
 | v (x : Value)
 | tt
 | ff
 | p (r : Nat) (π : Path) (i j : Nat)
 | sl (r : Nat) (π : Path) (lo n : Nat)
 | z
 | fn (f : FuncId) (caps : List Nat)
 | mp (r : Nat)
 | it (r : Nat)
 | yl (r : Nat)
 | err
inductive C1 where
 | a (x : At)
 | agg (l : List At)
inductive Tm where
 | a (x : At)
 | agg (l : List At)
 | tup (l : List C1)
def C1.tm : C1 → Tm
 | .a x => .a x
 | .agg l => .agg l
inductive CK where
 | int (k : IntKind)
 | bool
 | str
 | sl (e : TypeId) (tg : List CK)
mutual
def CK.ty : CK → Type
 | .int _ => Int
 | .bool => Bool
 | .str => ByteArray
 | .sl _ tg => List (Tup tg)
def Tup : List CK → Type
 | [] => Unit
 | [c] => c.ty
 | c :: c' :: cs => c.ty × Tup (c' :: cs)
end
def CK.flat : CK → Bool
 | .sl _ _ => false
 | _ => true
def flatK : List CK → Bool
 | [] => true
 | c :: cs => match c.flat with | true => flatK cs | false => false
def sameKind : IntKind → IntKind → Bool
 | .i8,.i8 | .i16,.i16 | .i32,.i32 | .i64,.i64 | .u8,.u8 | .u16,.u16 | .u32,.u32 | .u64,.u64 => true
 | _,_ => false
def CK.of : (c : CK) → Value → Option c.ty
 | .int k,.int k' n => (match sameKind k k' with | true => some n | false => none)
 | .bool,.bool b => some b
 | .str,.string s => some s
 | _,_ => none
def CK.d : (c : CK) → c.ty
 | .int _ => (0 : Int)
 | .bool => false
 | .str => ByteArray.empty
 | .sl _ tg => ([] : List (Tup tg))
def Tup.d : (tg : List CK) → Tup tg
 | [] => ()
 | [c] => c.d
 | c :: c' :: cs => (c.d,Tup.d (c' :: cs))
structure Ar where
 te : TypeId
 tg : List CK
 xs : List (Tup tg)
def CK.at (r : Nat) (π : Path) (i j : Nat) : (c : CK) → c.ty → At
 | .int k,n => .v (.int k n)
 | .bool,b => .v (.bool b)
 | .str,s => .v (.string s)
 | .sl _ _,(ys : List _) => .sl r ((i,j) :: π) 0 ys.length
def Tup.ats (r : Nat) (π : Path) (i : Nat) : Nat → (tg : List CK) → Tup tg → List At
 | _,[],_ => []
 | j,[c],x => [c.at r π i j x]
 | j,c :: c' :: cs,x => c.at r π i j x.1 :: Tup.ats r π i (j + 1) (c' :: cs) x.2
def CK.sub : (c : CK) → c.ty → Option Ar
 | .sl e tg,ys => some ⟨e,tg,ys⟩
 | _,_ => none
def Tup.sub : (tg : List CK) → Tup tg → Nat → Option Ar
 | [],_,_ => none
 | [c],x,0 => c.sub x
 | [_],_,_ + 1 => none
 | c :: _ :: _,x,0 => c.sub x.1
 | _ :: c' :: cs,x,j + 1 => Tup.sub (c' :: cs) x.2 j
def Ar.get (A : Ar) (i : Nat) : Tup A.tg:=A.xs.getD i (Tup.d A.tg)
def Ar.dn (A : Ar) : Path → Option (List Duty × Ar)
 | [] => some ([],A)
 | (i,j) :: π =>
   match A.dn π with
   | some (q,B) => (match Tup.sub B.tg (B.get i) j with | some C => some (q ++ [(Duty.of (i < B.xs.length))],C) | none => none)
   | none => none
/-! ### Kinds compared -/
def kindEq : (k k' : IntKind) → Option (PLift (k = k'))
 | .i8,.i8 => some ⟨rfl⟩ | .i16,.i16 => some ⟨rfl⟩ | .i32,.i32 => some ⟨rfl⟩ | .i64,.i64 => some ⟨rfl⟩
 | .u8,.u8 => some ⟨rfl⟩ | .u16,.u16 => some ⟨rfl⟩ | .u32,.u32 => some ⟨rfl⟩ | .u64,.u64 => some ⟨rfl⟩
 | _,_ => none
def natEq : (m n : Nat) → Option (PLift (m = n))
 | m,n => match h : Nat.beq m n with | true => some ⟨Nat.eq_of_beq_eq_true h⟩ | false => none
mutual
def ckEq : (c c' : CK) → Option (PLift (c = c'))
 | .bool,.bool => some ⟨rfl⟩
 | .str,.str => some ⟨rfl⟩
 | .int k,.int k' => (match kindEq k k' with | some h => some ⟨congrArg CK.int h.down⟩ | none => none)
 | .sl e tg,.sl e' tg' => (match natEq e e',tagEq tg tg' with | some h,some h' => some ⟨by rw [h.down,h'.down]⟩ | _,_ => none)
 | _,_ => none
def tagEq : (l l' : List CK) → Option (PLift (l = l'))
 | [],[] => some ⟨rfl⟩
 | c :: l,c' :: l' => (match ckEq c c',tagEq l l' with | some h,some h' => some ⟨by rw [h.down,h'.down]⟩ | _,_ => none)
 | _,_ => none
end
def castL {tg tg' : List CK} (h : tg = tg') (xs : List (Tup tg)) : List (Tup tg'):=h ▸ xs
def CK.setSub : (c : CK) → Ar → Option c.ty
 | .sl e tg,C => (match natEq C.te e,tagEq C.tg tg with | some _,some h => some (castL h.down C.xs) | _,_ => none)
 | _,_ => none
def Tup.setSub : (tg : List CK) → Tup tg → Nat → Ar → Option (Tup tg)
 | [],_,_,_ => none
 | [c],_,0,C => c.setSub C
 | [_],_,_ + 1,_ => none
 | c :: c' :: cs,x,0,C => (match c.setSub C with | some y => some ((y,x.2) : c.ty × Tup (c' :: cs)) | none => none)
 | c :: c' :: cs,x,j + 1,C => (match Tup.setSub (c' :: cs) x.2 j C with | some y => some ((x.1,y) : c.ty × Tup (c' :: cs)) | none => none)
def Ar.up (A : Ar) : Path → Ar → Option Ar
 | [],B => (match natEq B.te A.te,tagEq B.tg A.tg with | some _,some h => some ⟨A.te,A.tg,castL h.down B.xs⟩ | _,_ => none)
 | (i,j) :: π,C =>
   match A.dn π with
   | some (_,B) => (match Tup.setSub B.tg (B.get i) j C with | some a => A.up π ⟨B.te,B.tg,B.xs.set i a⟩ | none => none)
   | none => none
inductive Tr where
 | nil
 | node (x : Tm) (l r : Tr)
def Tr.get : Tr → Nat → Tm
 | .nil,_ => .a .any
 | .node x l r,i => match Nat.beq i 0 with
   | true => x
   | false => (match Nat.beq (i % 2) 1 with | true => l.get (i / 2) | false => r.get (i / 2 - 1))
def Tr.putK (t : Tr) (i : Nat) (x : Tm) (k : Tr → Prop) : Prop :=
 Tr.rec (motive:=fun _ => Nat → (Tr → Prop) → Prop) (fun _ k => k .nil)
  (fun y l r fl fr i k => match Nat.beq i 0 with
    | true => k (.node x l r)
    | false => (match Nat.beq (i % 2) 1 with | true => fl (i / 2) (fun l => k (.node y l r)) | false => fr (i / 2 - 1) (fun r => k (.node y l r)))) t i k
def Tr.put : Tr → Nat → Tm → Tr
 | .nil,_,_ => .nil
 | .node y l r,i,x => match Nat.beq i 0 with
   | true => .node x l r
   | false => (match Nat.beq (i % 2) 1 with | true => .node y (l.put (i / 2) x) r | false => .node y l (r.put (i / 2 - 1) x))
structure Sl where
 n : Nat
 t : Tr
def Sl.get (s : Sl) (i : Nat) : Tm:=s.t.get i
inductive Reg where
 | dead
 | box (own : Bool) (cells : List At)
 | arr (te : TypeId) (tg : List CK) (xs : List (Tup tg)) (own inn : Bool)
 | map (t : TypeId) (k : IntKind) (c : CK) (es : List (Int × c.ty)) (own : Bool)
 | mps (t : TypeId) (kk : List CK) (e : TypeId) (tg : List CK) (es : List (Tup kk × List (Tup tg))) (own inn : Bool)
 | iter (m : Option Nat) (n : Nat) (seen : List Nat)
 | lp (b : Nat) (s : Sl) (L : Loop) (q : LoopState) (j : Option Code)
structure St where
 tm : Sl
 fr : List Sl
 rg : List Reg
inductive Ty where
 | int (k : IntKind)
 | bool
 | str
 | st (fs : List (Nat × Nat)) (n : Nat)
 | sl (e : TypeId) (m : Nat)
 | ar (e : TypeId) (m n : Nat)
 | map (k e : TypeId)
 | word
 | other
structure Ob (p : Prop) : Prop where
 h : p
def oblige (c : Bool) (l : List Duty) (p : Prop) : Prop :=
 List.rec (motive:=fun _ => Prop) p (fun q _ ih => match c with | true => (match q.b with | true => ih | false => False) | false => Ob q.p ∧ ih) l
structure Res where
 rg : List Reg
 tm : Tm
inductive Ctr where
 | fn (F : List Tm → List Reg → Option (List Duty × Tm))
 | new (C : List Tm → List Reg → (Res → Prop) → Prop)
 | rel (C : List Tm → List Reg → (List (Nat × Reg) → Res → Prop) → Prop)
def look {α : Type u} : List (Nat × α) → Nat → Option α
 | [],_ => none
 | (g,c) :: l,f => match Nat.beq g f with | true => some c | false => look l f
inductive OT where
 | fin
 | alt (i : Nat) (t more : OT)
 | take (i : Nat) (t : OT)
structure Body where
 n : Nat
 code : Code
 rs : List ResultVar
structure Env where
 ty : TypeId → Ty
 zero : TypeId → Option (List At)
 eqs : TypeId → Option (List Nat)
 sc : TypeId → Option CK:=fun _ => none
 kd : TypeId → Option (List CK)
 ct : FuncId → Option Ctr
 inl : FuncId → Option Body:=fun _ => none
 exact : Bool
 conc : Bool:=false
 cut : Nat → Bool:=fun _ => false
 tree : Nat → Option OT:=fun _ => none
 ord : Nat → Option (List Nat):=fun _ => none
 htr : Nat → Option (Nat × OT):=fun _ => none
 lf : TypeId → Nat → Bool:=fun _ _ => false
 str : Nat → Option (List Nat × OT):=fun _ => none
 un : Nat:=0
 cv : Bool:=false
 ifc : TypeId → Bool:=fun _ => false
/-! ### Lists handed on written out -/
def setK {α : Type u} (l : List α) (i : Nat) (x : α) (k : List α → Prop) : Prop :=
 List.rec (motive:=fun _ => Nat → (List α → Prop) → Prop) (fun _ k => k [])
  (fun a l ih i k => match i with
    | 0 => k (x :: l)
    | i + 1 => ih i (fun l => k (a :: l))) l i k
def appK {α : Type u} (l m : List α) (k : List α → Prop) : Prop :=
 List.rec (motive:=fun _ => (List α → Prop) → Prop) (fun k => k m) (fun a _ ih k => ih (fun l => k (a :: l))) l k
def lenK {α : Type u} (l : List α) (k : Nat → Prop) : Prop :=
 List.rec (motive:=fun _ => Nat → (Nat → Prop) → Prop) (fun n k => k n) (fun _ _ ih n k => ih (Nat.succ n) k) l 0 k
def lenC {α : Type u} (c : Bool) (l : List α) (k : Nat → Prop) : Prop:=match c with | true => Nat.rec (motive:=fun _ => Prop) (k 0) (fun p _ => k (Nat.succ p)) l.length | false => lenK l k
def eachK {α β : Type u} (f : α → (β → Prop) → Prop) (l : List α) (k : List β → Prop) : Prop :=
 List.rec (motive:=fun _ => (List β → Prop) → Prop) (fun k => k []) (fun x _ ih k => f x (fun y => ih (fun l => k (y :: l)))) l k
def forceV (x : Value) (k : Value → Prop) : Prop :=
 match x with
 | .bool b => k (.bool b)
 | .int i n => k (.int i n)
 | x => k x
def forceA (x : At) (k : At → Prop) : Prop :=
 match x with
 | .v x => forceV x (fun x => k (.v x))
 | x => k x
def forceAs (l : List At) (k : List At → Prop) : Prop:=eachK forceA l k
def forceC (x : C1) (k : C1 → Prop) : Prop :=
 match x with
 | .a x => forceA x (fun x => k (.a x))
 | .agg l => forceAs l (fun l => k (.agg l))
def forceT (x : Tm) (k : Tm → Prop) : Prop :=
 match x with
 | .a x => forceA x (fun x => k (.a x))
 | .agg l => forceAs l (fun l => k (.agg l))
 | .tup l => eachK forceC l (fun l => k (.tup l))
def forceR (g : Reg) (k : Reg → Prop) : Prop :=
 match g with
 | .box o l => forceAs l (fun l => k (.box o l))
 | g => k g
def natK (m : Nat) (k : Nat → Prop) : Prop:=Nat.rec (motive:=fun _ => Prop) (k 0) (fun p _ => k (Nat.succ p)) m
def intK (n : Int) (k : Int → Prop) : Prop :=
 match n with
 | .ofNat m => natK m (fun m => k (.ofNat m))
 | .negSucc m => natK m (fun m => k (.negSucc m))
def boolK (b : Bool) (k : Bool → Prop) : Prop:=match b with | true => k true | false => k false
def byteOf (l : List Nat) : ByteArray:=⟨(l.map UInt8.ofNat).toArray⟩
def bytesK (s : ByteArray) (k : ByteArray → Prop) : Prop:=eachK natK (s.data.toList.map UInt8.toNat) (fun l => k (byteOf l))
def nameV (c : Bool) (x : Value) (k : Value → Prop) : Prop :=
 match c,x with
 | true,.bool b => boolK b (fun b => k (.bool b))
 | true,.int i n => intK n (fun n => k (.int i n))
 | true,.string s => bytesK s (fun s => k (.string s))
 | false,.bool b => ∀ d,b = d → k (.bool d)
 | false,.int i n => ∀ m,n = m → k (.int i m)
 | false,.string s => ∀ t,s = t → k (.string t)
 | _,x => k x
def nameA (c : Bool) (x : At) (k : At → Prop) : Prop :=
 match x with
 | .v x => nameV c x (fun x => k (.v x))
 | .sl r π lo n => (match c with | true => natK lo (fun lo => natK n (fun n => k (.sl r π lo n))) | false => k (.sl r π lo n))
 | .p r π i j => (match c with | true => natK i (fun i => natK j (fun j => k (.p r π i j))) | false => k (.p r π i j))
 | x => k x
def nameC (c : Bool) (x : C1) (k : C1 → Prop) : Prop :=
 match x with
 | .a x => nameA c x (fun x => k (.a x))
 | .agg l => eachK (nameA c) l (fun l => k (.agg l))
def nameT (c : Bool) (x : Tm) (k : Tm → Prop) : Prop :=
 match x with
 | .a x => nameA c x (fun x => k (.a x))
 | .agg l => eachK (nameA c) l (fun l => k (.agg l))
 | .tup l => eachK (nameC c) l (fun l => k (.tup l))
/-! ### Maps' entries -/
def mget {α : Type} : List (Int × α) → Int → α → α
 | [],_,d => d
 | (k,v) :: es,n,d => match k == n with | true => v | false => mget es n d
def mhas {α : Type} : List (Int × α) → Int → Bool
 | [],_ => false
 | (k,_) :: es,n => match k == n with | true => true | false => mhas es n
def mset {α : Type} : List (Int × α) → Int → α → List (Int × α)
 | [],n,v => [(n,v)]
 | (k,w) :: es,n,v => match k == n with | true => (n,v) :: es | false => (k,w) :: mset es n v
/-! ### A state's parts -/
def Sl.put (s : Sl) (d : Nat) (x : Tm) : Sl:=match Nat.blt d s.n with | true => ⟨s.n,s.t.put d x⟩ | false => s
def St.put (st : St) (d : Option Nat) (x : Tm) : St :=
 match d with
 | some d => { st with tm:=st.tm.put d x }
 | none => st
def St.putK (st : St) (d : Option Nat) (x : Tm) (k : St → Prop) : Prop :=
 match st,d with
 | ⟨⟨n,t⟩,fr,rg⟩,some d => (match Nat.blt d n with | true => forceT x (fun x => t.putK d x (fun t => k ⟨⟨n,t⟩,fr,rg⟩)) | false => False)
 | ⟨tm,fr,rg⟩,none => k ⟨tm,fr,rg⟩
def newly (st : St) (o : Oper) : Bool :=
 match o.op with
 | .binOp op _ _ _ _ => (match op with | .add | .sub | .mul | .quo | .rem | .shl | .shr | .and | .or => true | _ => false)
 | .unOp .neg _ _ => true
 | .convert .. => true
 | .call .. => true
 | .lookup .. => true
 | .load _ (.tmp t) =>
   (match st.tm.get t with
    | .a (.p r _ _ _) => (match st.rg.getD r .dead with | .arr .. => true | _ => false)
    | _ => false)
 | _ => false
def St.putN (E : Env) (st : St) (o : Oper) (x : Tm) (k : St → Prop) : Prop :=
 match E.conc with
 | true => nameT true x (fun x => st.putK o.dst x k)
 | false => (match newly st o with | true => nameT false x (fun x => st.putK o.dst x k) | false => st.putK o.dst x k)
mutual
def ckK : (c : CK) → c.ty → (c.ty → Prop) → Prop
 | .int _,(n : Int),k => intK n k
 | .bool,(b : Bool),k => boolK b k
 | .str,(s : ByteArray),k => bytesK s k
 | .sl _ tg,(xs : List (Tup tg)),k => eachK (tupK tg) xs k
def tupK : (tg : List CK) → Tup tg → (Tup tg → Prop) → Prop
 | [],_,k => k ()
 | [c],x,k => ckK c x k
 | c :: c' :: cs,x,k => ckK c x.1 (fun y => tupK (c' :: cs) x.2 (fun z => k (y,z)))
end
def entK (cc : CK) (p : Int × cc.ty) (k : Int × cc.ty → Prop) : Prop:=intK p.1 (fun n => ckK cc p.2 (fun v => k (n,v)))
def nameR (c : Bool) (g : Reg) (k : Reg → Prop) : Prop :=
 match c,g with
 | true,.map t kk cc es o => boolK o (fun o => eachK (entK cc) es (fun fs => k (.map t kk cc fs o)))
 | false,.map t kk cc es o => ∀ fs,es = fs → k (.map t kk cc fs o)
 | false,.mps t kk e tg es o i => ∀ fs,es = fs → k (.mps t kk e tg fs o i)
 | true,.arr te tg xs o i => boolK o (fun o => boolK i (fun i => eachK (tupK tg) xs (fun ys => k (.arr te tg ys o i))))
 | false,.arr te tg xs o i => ∀ ys,xs = ys → k (.arr te tg ys o i)
 | _,g => k g
def St.pushK (st : St) (gs : List Reg) (k : St → Prop) : Prop :=
 match st with
 | ⟨tm,fr,rg⟩ => eachK forceR gs (fun gs => appK rg gs (fun rg => k ⟨tm,fr,rg⟩))
def St.setRK (st : St) (r : Nat) (g : Reg) (k : St → Prop) : Prop :=
 match st with
 | ⟨tm,fr,rg⟩ => forceR g (fun g => setK rg r g (fun rg => k ⟨tm,fr,rg⟩))
def constTm : Value → Option Tm
 | .bool true => some (.a .tt)
 | .bool false => some (.a .ff)
 | .agg _ => none
 | .tuple _ => none
 | x => some (.a (.v x))
def ev (st : St) : Operand → Option Tm
 | .tmp t => some (st.tm.get t)
 | .const x => constTm x
 | .func f => some (.a (.fn f []))
 | .global g => some (.a (.v (.pointer (some ⟨g,0,none⟩))))
def At.one : At → Bool
 | .any => false
 | .un => false
 | _ => true
def allL {α : Type u} (f : α → Bool) : List α → Bool
 | [] => true
 | x :: l => match f x with | true => allL f l | false => false
def tmCells : Tm → Option (List At)
 | .a x => (match x.one with | true => some [x] | false => none)
 | .agg l => (match allL At.one l with | true => some l | false => none)
 | .tup _ => none
def inR : IntKind → Int → Prop
 | .i8,n => -128 ≤ n ∧ n ≤ 127
 | .i16,n => -32768 ≤ n ∧ n ≤ 32767
 | .i32,n => -2147483648 ≤ n ∧ n ≤ 2147483647
 | .i64,n => -9223372036854775808 ≤ n ∧ n ≤ 9223372036854775807
 | .u8,n => 0 ≤ n ∧ n ≤ 255
 | .u16,n => 0 ≤ n ∧ n ≤ 65535
 | .u32,n => 0 ≤ n ∧ n ≤ 4294967295
 | .u64,n => 0 ≤ n ∧ n ≤ 18446744073709551615
def inRb : IntKind → Int → Bool
 | .i8,n => decide (-128 ≤ n ∧ n ≤ 127)
 | .i16,n => decide (-32768 ≤ n ∧ n ≤ 32767)
 | .i32,n => decide (-2147483648 ≤ n ∧ n ≤ 2147483647)
 | .i64,n => decide (-9223372036854775808 ≤ n ∧ n ≤ 9223372036854775807)
 | .u8,n => decide (0 ≤ n ∧ n ≤ 255)
 | .u16,n => decide (0 ≤ n ∧ n ≤ 65535)
 | .u32,n => decide (0 ≤ n ∧ n ≤ 4294967295)
 | .u64,n => decide (0 ≤ n ∧ n ≤ 18446744073709551615)
theorem inRb_iff (k : IntKind) (n : Int) : inRb k n = true ↔ inR k n:=by cases k <;> exact decide_eq_true_iff
def inRQ (k : IntKind) (n : Int) : Duty:=⟨inR k n,inRb k n,inRb_iff k n⟩
def wrapped (E : Env) (pre : List Duty) (k : IntKind) (n : Int) : Option (List Duty × Tm) :=
 match E.exact with
 | true => some (pre ++ [inRQ k n],.a (.v (.int k n)))
 | false => some (pre,.a (.v (.int k (k.wrap n))))
def bl (b : Bool) : Tm:=.a (.v (.bool b))
def evSh (E : Env) (op : BinOp) (k : IntKind) (a b : Int) : Option (List Duty × Tm) :=
 match op with
 | .shl => wrapped E [(Duty.of (0 ≤ b)),(Duty.of (b ≤ (k.bits : Nat)))] k (a * 2 ^ b.toNat)
 | .shr => some ([(Duty.of (0 ≤ b)),(Duty.of (b ≤ (k.bits : Nat)))],.a (.v (.int k (a / 2 ^ b.toNat))))
 | _ => none
def evInt (E : Env) (op : BinOp) (k : IntKind) (a b : Int) : Option (List Duty × Tm) :=
 match op with
 | .add => wrapped E [] k (a + b)
 | .sub => wrapped E [] k (a - b)
 | .mul => wrapped E [] k (a * b)
 | .quo => wrapped E [(Duty.of (b ≠ 0))] k (a.tdiv b)
 | .rem => some ([(Duty.of (b ≠ 0))],.a (.v (.int k (a.tmod b))))
 | .eql => some ([],bl (a == b))
 | .neq => some ([],bl (a != b))
 | .lss => some ([],bl (decide (a < b)))
 | .leq => some ([],bl (decide (a ≤ b)))
 | .gtr => some ([],bl (decide (a > b)))
 | .geq => some ([],bl (decide (a ≥ b)))
 | .shl => evSh E .shl k a b
 | .shr => evSh E .shr k a b
 | .and => some ([(Duty.of (0 ≤ a)),(Duty.of (0 ≤ b)),inRQ k a,inRQ k b],.a (.v (.int k ((a.toNat &&& b.toNat : Nat) : Int))))
 | .or => some ([(Duty.of (0 ≤ a)),(Duty.of (0 ≤ b)),inRQ k a,inRQ k b],.a (.v (.int k ((a.toNat ||| b.toNat : Nat) : Int))))
 | _ => none
def boolA : At → Option Bool
 | .tt => some true
 | .ff => some false
 | .v (.bool b) => some b
 | _ => none
def boolOf : Tm → Option Bool
 | .a x => boolA x
 | _ => none
def lenIs {α : Type u} : List α → Nat → Bool
 | [],0 => true
 | _ :: l,n + 1 => lenIs l n
 | _,_ => false
def cellEq (x y : At) : Option Bool :=
 match x,y with
 | .v (.int k a),.v (.int k' b) => (match sameKind k k' with | true => some (a == b) | false => none)
 | .v (.string s),.v (.string t) => some (s.toList == t.toList)
 | x,y => (match boolA x,boolA y with | some a,some b => some (a == b) | _,_ => none)
def cellsEq : List At → List At → Option Bool
 | [],[] => some true
 | x :: xs,y :: ys =>
   (match cellEq x y,cellsEq xs ys with
    | some e,some e' => some (e && e')
    | _,_ => none)
 | _,_ => none
def kindA : At → Nat
 | .v (.int _ _) => 0
 | .v (.bool _) => 1
 | .v (.string _) => 2
 | .tt => 1
 | .ff => 1
 | _ => 3
def kindsAre : List Nat → List At → Bool
 | [],[] => true
 | k :: ks,x :: xs => (match Nat.beq k (kindA x) with | true => kindsAre ks xs | false => false)
 | _,_ => false
def nilA : At → Option Bool
 | .v .nilIface => some true
 | .err => some false
 | _ => none
def evBin (E : Env) (op : BinOp) (t : TypeId) (x y : Tm) : Option (List Duty × Tm) :=
 match x,y with
 | .a (.v (.int k a)),.a (.v (.int k' b)) => match sameKind k k' with | true => evInt E op k a b | false => evSh E op k a b
 | .a (.v (.string x)),.a (.v (.string y)) =>
   (match op with
    | .add => some ([(Duty.of ((x.size + y.size : Nat) ≤ 9223372036854775807))],.a (.v (.string (x ++ y))))
    | .eql => some ([],bl (x.toList == y.toList))
    | .neq => some ([],bl (!(x.toList == y.toList)))
    | _ => none)
 | .agg l,.agg l' =>
   match E.eqs t,cellsEq l l' with
   | some n,some e => (match op,kindsAre n l with | .eql,true => some ([],bl e) | .neq,true => some ([],bl (!e)) | _,_ => none)
   | _,_ => none
 | x,y =>
   match E.ty t,boolOf x,boolOf y with
   | .bool,some a,some b => (match op with | .eql => some ([],bl (a == b)) | .neq => some ([],bl (!(a == b))) | _ => none)
   | _,_,_ => none
def isNilOp : Operand → Bool
 | .const .nilIface => true
 | _ => false
def evNil (E : Env) (op : BinOp) (t : TypeId) (x : Tm) : Option (List Duty × Tm) :=
 match E.ifc t,x with
 | true,.a x =>
   (match nilA x,op with
    | some true,.eql => some ([],.a .tt)
    | some true,.neq => some ([],.a .ff)
    | some false,.eql => some ([],.a .ff)
    | some false,.neq => some ([],.a .tt)
    | _,_ => none)
 | _,_ => none
def evUn (E : Env) (op : UnOp) (x : Tm) : Option (List Duty × Tm) :=
 match op,x with
 | .neg,.a (.v (.int k a)) => wrapped E [] k (0 - a)
 | .not,.a .tt => some ([],.a .ff)
 | .not,.a .ff => some ([],.a .tt)
 | .not,.a (.v (.bool b)) => some ([],bl (!b))
 | _,_ => none
def evConv (E : Env) (dst : TypeId) (x : Tm) : Option (List Duty × Tm) :=
 match E.ty dst,x with
 | .int k',.a (.v (.int _ a)) => (match E.cv with | true => some ([],.a (.v (.int k' (k'.wrap a)))) | false => wrapped E [] k' a)
 | _,_ => none
/-! ### Reading -/
def Reg.dn (g : Reg) (π : Path) : Option (List Duty × Ar) :=
 match g with
 | .arr te tg xs _ _ => Ar.dn ⟨te,tg,xs⟩ π
 | .mps _ kk e tg es _ _ =>
   (match π,flatK tg with
    | [(j,0)],true => some ([(Duty.of (j < es.length))],⟨e,tg,(es.getD j (Tup.d kk,[])).2⟩)
    | _,_ => none)
 | _ => none
def evBytes (E : Env) (st : St) (e dst : TypeId) (r : Nat) (π : Path) (lo n : Nat) : Option (List Duty × Tm) :=
 match E.ty e,E.ty dst,(st.rg.getD r .dead).dn π with
 | .int .u8,.str,some (q,⟨_,[.int .u8],xs⟩) => some (q ++ [(Duty.of (lo + n ≤ xs.length))],.a (.v (.string (strOfNums ((xs.drop lo).take n)))))
 | _,_,_ => none
def cellsAt (r : Nat) (g : Reg) (π : Path) (i j n : Nat) : Option (List Duty × List At) :=
 match g with
 | .box _ cells =>
   (match π,i,lenIs ((cells.drop j).take n) n with
    | [],0,true => some ([],(cells.drop j).take n)
    | _,_,_ => none)
 | g =>
   (match g.dn π with
    | some (q,B) =>
      (match lenIs (((Tup.ats r π i 0 B.tg (B.get i)).drop j).take n) n with
       | true => some (q ++ [(Duty.of (i < B.xs.length))],((Tup.ats r π i 0 B.tg (B.get i)).drop j).take n)
       | false => none)
    | none => none)
def evLoad (E : Env) (st : St) (t : TypeId) (addr : Tm) : Option (List Duty × Tm) :=
 match addr with
 | .a (.p r π i j) =>
   match E.ty t with
   | .st _ n => (match cellsAt r (st.rg.getD r .dead) π i j n with | some (q,l) => some (q,.agg l) | none => none)
   | .ar _ m n => (match cellsAt r (st.rg.getD r .dead) π i j (n * m) with | some (q,l) => some (q,.agg l) | none => none)
   | .other => none
   | _ => (match cellsAt r (st.rg.getD r .dead) π i j 1 with | some (q,[x]) => some (q,.a x) | _ => none)
 | _ => none
def fillL (cells : List At) (off : Nat) : List At → List At
 | [] => cells
 | x :: xs => fillL (cells.set off x) (off + 1) xs
def evParts (fs : List (Nat × Nat)) (st : St) : List (Nat × Operand) → List At → Option (List At)
 | [],cells => some cells
 | (i,o) :: rest,cells =>
   match fs[i]?,ev st o with
   | some (off,size),some x =>
     (match tmCells x with
      | some l =>
        (match lenIs l size,Nat.ble (off + size) cells.length with
         | true,true => evParts fs st rest (fillL cells off l)
         | _,_ => none)
      | none => none)
   | _,_ => none
def evPartsA (m : Nat) (st : St) : List (Nat × Operand) → List At → Option (List At)
 | [],cells => some cells
 | (i,o) :: rest,cells =>
   match ev st o with
   | some x =>
     (match tmCells x with
      | some l =>
        (match lenIs l m,Nat.ble (i * m + m) cells.length with
         | true,true => evPartsA m st rest (fillL cells (i * m) l)
         | _,_ => none)
      | none => none)
   | none => none
def evCaps (st : St) : List Operand → Option (List Nat)
 | [] => some []
 | o :: os =>
   match ev st o,evCaps st os with
   | some (.a (.p r [] 0 0)),some l => some (r :: l)
   | _,_ => none
def evAll (st : St) : List Operand → Option (List Tm)
 | [] => some []
 | o :: os =>
   match ev st o,evAll st os with
   | some x,some l => some (x :: l)
   | _,_ => none
def evBound (st : St) (d : Nat) : Option Operand → Option (List Duty × Nat)
 | none => some ([],d)
 | some o => (match ev st o with | some (.a (.v (.int _ a))) => some ([(Duty.of (0 ≤ a))],a.toNat) | _ => none)
def evSlice (E : Env) (st : St) (t : TypeId) (x : Tm) (lo hi : Option Operand) : Option (List Duty × Tm) :=
 match E.ty t,x with
 | .sl _ m,.a (.sl r π l n) =>
   (match evBound st 0 lo,evBound st n hi with
    | some (q,i),some (q',j) =>
      (match st.rg.getD r .dead with
       | .arr te tg xs _ _ => (match Ar.dn ⟨te,tg,xs⟩ π with | some (q'',B) => (match Nat.beq B.tg.length m with | true => some (q'' ++ (q ++ q' ++ [(Duty.of (i ≤ j)),(Duty.of (j ≤ n))]),.a (.sl r π (l + i) (j - i))) | false => none) | none => none)
       | _ => none)
    | _,_ => none)
 | .sl _ _,.a (.v (.slice none 0 0)) =>
   (match evBound st 0 lo,evBound st 0 hi with
    | some (q,i),some (q',j) => some (q ++ q' ++ [(Duty.of (i = 0)),(Duty.of (j = 0))],.a (.v (.slice none 0 0)))
    | _,_ => none)
 | .sl _ _,.a .z =>
   (match evBound st 0 lo,evBound st 0 hi with
    | some (q,i),some (q',j) => some (q ++ q' ++ [(Duty.of (i = 0)),(Duty.of (j = 0))],.a .z)
    | _,_ => none)
 | .str,.a (.v (.string s)) =>
   (match evBound st 0 lo,evBound st s.size hi with
    | some (q,i),some (q',j) => some (q ++ q' ++ [(Duty.of (i ≤ j)),(Duty.of (j ≤ s.size))],.a (.v (.string (s.extract i j))))
    | _,_ => none)
 | _,_ => none
def keyIx {α : Type} (e : α → Bool) : List α → Nat
 | [] => 0
 | x :: l => match e x with | true => 0 | false => keyIx e l + 1
def CK.beq : (c : CK) → c.ty → c.ty → Bool
 | .int _,(a : Int),b => a == b
 | .bool,(a : Bool),b => a == b
 | .str,(a : ByteArray),b => a.toList == b.toList
 | .sl _ _,_,_ => false
def Tup.beq : (tg : List CK) → Tup tg → Tup tg → Bool
 | [],_,_ => true
 | [c],x,y => c.beq x y
 | c :: c' :: cs,x,y => c.beq x.1 y.1 && Tup.beq (c' :: cs) x.2 y.2
def CK.ofAt (c : CK) : At → Option c.ty
 | .v x => c.of x
 | .tt => c.of (.bool true)
 | .ff => c.of (.bool false)
 | _ => none
def ofCells : (tg : List CK) → List At → Option (Tup tg)
 | [],[] => some ()
 | [c],[x] => c.ofAt x
 | c :: c' :: cs,x :: xs => (match c.ofAt x,ofCells (c' :: cs) xs with | some y,some z => some ((y,z) : c.ty × Tup (c' :: cs)) | _,_ => none)
 | _,_ => none
def evLen (E : Env) (t : TypeId) (x : Tm) : Option (List Duty × Tm) :=
 match E.ty t,x with
 | .sl _ _,.a (.sl _ _ _ n) => some ([],.a (.v (.int .i64 n)))
 | .sl _ _,.a (.v (.slice none n _)) => some ([],.a (.v (.int .i64 n)))
 | .sl _ _,.a .z => some ([],.a (.v (.int .i64 0)))
 | .str,.a (.v (.string s)) => some ([],.a (.v (.int .i64 s.size)))
 | .map _ _,.a (.v (.map none)) => some ([],.a (.v (.int .i64 0)))
 | _,_ => none
def castE {c c' : CK} (h : c = c') (es : List (Int × c.ty)) : List (Int × c'.ty):=h ▸ es
def mapOf (st : St) (k : IntKind) (c : CK) (x : At) : Option (List (Int × c.ty)) :=
 match x with
 | .v (.map none) => some []
 | .mp r =>
   (match st.rg.getD r .dead with
    | .map _ k' c' es _ => (match sameKind k' k,ckEq c' c with | true,some h => some (castE h.down es) | _,_ => none)
    | _ => none)
 | _ => none
def CK.pl : (c : CK) → c.ty → At
 | .int k,n => .v (.int k n)
 | .bool,b => .v (.bool b)
 | .str,s => .v (.string s)
 | .sl _ _,_ => .any
/-! ### Maps from structs to slices -/
def Tup.pls : (tg : List CK) → Tup tg → List At
 | [],_ => []
 | [c],x => [c.pl x]
 | c :: c' :: cs,x => c.pl x.1 :: Tup.pls (c' :: cs) x.2
def kix {α : Type} (kk : List CK) (k : Tup kk) (es : List (Tup kk × α)) : Nat:=keyIx (fun p => Tup.beq kk k p.1) es
def kput {α : Type} (kk : List CK) (k : Tup kk) (v : α) : List (Tup kk × α) → List (Tup kk × α)
 | [] => [(k,v)]
 | p :: es => match Tup.beq kk k p.1 with | true => (p.1,v) :: es | false => p :: kput kk k v es
def kkOk : List CK → List Nat → Bool
 | [],[] => true
 | .int _ :: l,0 :: m => kkOk l m
 | .bool :: l,1 :: m => kkOk l m
 | .str :: l,2 :: m => kkOk l m
 | _,_ => false
def keyTy (E : Env) (kt : TypeId) : Option (List CK) :=
 match E.ty kt,E.kd kt,E.eqs kt with
 | .st _ _,some kk,some ns => (match kkOk kk ns with | true => some kk | false => none)
 | _,_,_ => none
def valTy (E : Env) (et : TypeId) : Option (TypeId × List CK) :=
 match E.sc et with
 | some (.sl e tg) => (match E.kd e with | some tg' => (match tagEq tg' tg,flatK tg with | some _,true => some (e,tg) | _,_ => none) | none => none)
 | _ => none
def lookTm (c : CK) (es : List (Int × c.ty)) (n : Int) (ok : Bool) : Tm :=
 match ok with
 | true => .tup [.a (c.pl (mget es n c.d)),.a (.v (.bool (mhas es n)))]
 | false => .a (c.pl (mget es n c.d))
def evP (E : Env) (st : St) (o : Oper) : Option (List Duty × Tm) :=
 match o.op with
 | .move x | .assign x => (match ev st x with | some x => some ([],x) | none => none)
 | .pick c a b =>
   (match ev st c,ev st a,ev st b with
    | some (.a .tt),some x,_ => some ([],x)
    | some (.a .ff),_,some y => some ([],y)
    | some (.a (.v (.bool c))),some x,some y =>
      (match boolOf x,boolOf y with
       | some x,some y => some ([],bl (if c then x else y))
       | _,_ => none)
    | _,_,_ => none)
 | .load t a => (match ev st a with | some a => evLoad E st t a | none => none)
 | .binOp op t x y _ => (match isNilOp y with
   | true => (match ev st x with | some x => evNil E op t x | none => none)
   | false => (match ev st x,ev st y with | some x,some y => evBin E op t x y | _,_ => none))
 | .unOp op _ x => (match ev st x with | some x => evUn E op x | none => none)
 | .convert src dst x => (match E.ty src,ev st x with | .int _,some x => evConv E dst x | .sl e _,some (.a (.sl r π lo n)) => evBytes E st e dst r π lo n | _,_ => none)
 | .fieldAddr s x f =>
   (match E.ty s,ev st x with
    | .st fs _,some (.a (.p r π i j)) => (match fs[f]? with | some (off,_ + 1) => some ([],.a (.p r π i (j + off))) | _ => none)
    | _,_ => none)
 | .field s x f =>
   (match E.ty s,ev st x,E.lf s f with
    | .st fs _,some (.agg l),true => (match fs[f]? with | some (off,1) => (match l[off]? with | some y => some ([],.a y) | none => none) | _ => none)
    | _,_,_ => none)
 | .indexAddr t x ix =>
   (match E.ty t,ev st x,ev st ix with
    | .sl _ m,some (.a (.sl r π lo n)),some (.a (.v (.int _ i))) =>
      (match (st.rg.getD r .dead).dn π with
       | some (q,B) => (match Nat.beq B.tg.length m with | true => some (q ++ [(Duty.of (0 ≤ i ∧ i < n))],.a (.p r π (lo + i.toNat) 0)) | false => none)
       | none => none)
    | .ar _ m n,some (.a (.p r π a j)),some (.a (.v (.int _ i))) => some ([(Duty.of (0 ≤ i ∧ i < n))],.a (.p r π a (j + i.toNat * m)))
    | _,_,_ => none)
 | .index t x ix =>
   (match E.ty t,ev st x,ev st ix with
    | .ar e m n,some (.agg l),some (.a (.v (.int _ i))) =>
      (match E.ty e with
       | .st _ _ => some ([(Duty.of (0 ≤ i ∧ i < n))],.agg ((l.drop (i.toNat * m)).take m))
       | _ => none)
    | .str,some (.a (.v (.string s))),some (.a (.v (.int _ i))) => some ([(Duty.of (0 ≤ i ∧ i < s.size))],.a (.v (.int .u8 ((s.data.getD i.toNat 0).toNat))))
    | _,_,_ => none)
 | .slice t x lo hi none => (match ev st x with | some x => evSlice E st t x lo hi | none => none)
 | .slice t x none (some (.const (.int _ 0))) (some (.const (.int _ 0))) =>
   (match E.ty t,ev st x with
    | .sl _ _,some (.a (.sl _ _ _ _)) => some ([],.a .z)
    | .sl _ _,some (.a (.v (.slice none 0 0))) => some ([],.a .z)
    | .sl _ _,some (.a .z) => some ([],.a .z)
    | _,_ => none)
 | .lookup t x ix ok =>
   (match E.ty t with
    | .map kt et =>
      (match E.ty kt,E.sc et,ev st x,ev st ix with
       | .int k,some c,some (.a x),some (.a (.v (.int k' n))) =>
         (match sameKind k' k,mapOf st k c x with
          | true,some es => some ([],lookTm c es n ok)
          | _,_ => none)
       | _,_,some (.a (.mp r)),some (.agg l) =>
         (match ok,st.rg.getD r .dead,keyTy E kt,valTy E et with
          | false,.mps _ kk e tg es _ _,some kk',some (e',tg') =>
            (match tagEq kk' kk,natEq e' e,tagEq tg' tg,ofCells kk l with
             | some _,some _,some _,some k => some ([(Duty.of (kix kk k es < es.length))],.a (.sl r [(kix kk k es,0)] 0 ((es.getD (kix kk k es) (Tup.d kk,[])).2).length))
             | _,_,_,_ => none)
          | _,_,_,_ => none)
       | _,_,_,_ => none)
    | _ => none)
 | .entry x =>
   (match ev st x with
    | some (.a (.it r)) =>
      (match st.rg.getD r .dead with
       | .iter (some m) n (j :: _) =>
         (match st.rg.getD m .dead with
          | .map _ k c es _ => some ([(Duty.of (es.length = n)),(Duty.of (j < n))],.tup [.a (.v (.int k (es.getD j (0,c.d)).1)),.a (c.pl (es.getD j (0,c.d)).2)])
          | .mps _ kk _ _ es _ _ => some ([(Duty.of (es.length = n)),(Duty.of (j < n))],.tup [.agg (Tup.pls kk (es.getD j (Tup.d kk,[])).1),.a .any])
          | _ => none)
       | _ => none)
    | _ => none)
 | .nilCheck x => (match ev st x with | some (.a (.p r π i j)) => some ([],.a (.p r π i j)) | some (.a (.fn f l)) => some ([],.a (.fn f l)) | _ => none)
 | .extract t i => (match ev st t with | some (.tup l) => (match l[i]? with | some c => some ([],c.tm) | none => none) | _ => none)
 | .build t parts =>
   (match E.ty t,E.zero t with
    | .st fs n,some z => (match lenIs z n,evParts fs st parts.toList z with | true,some l => some ([],.agg l) | _,_ => none)
    | .ar _ m n,some z => (match lenIs z (n * m),evPartsA m st parts.toList z with | true,some l => some ([],.agg l) | _,_ => none)
    | _,_ => none)
 | .makeFunc fn first caps =>
   (match fn,first.toList,evCaps st caps.toList with
    | .func f,[],some l => some ([],.a (.fn f l))
    | _,_,_ => none)
 | .call c =>
   (match c.callee with
    | .builtin .len =>
      (match c.args.toList,c.argTypes.toList with
       | [x],[t] => (match ev st x with | some x => evLen E t x | none => none)
       | _,_ => none)
    | .builtin .cap =>
      (match c.args.toList,c.argTypes.toList with
       | [x],[t] => (match E.ty t,ev st x with | .sl _ _,some (.a (.v (.slice none _ k))) => some ([],.a (.v (.int .i64 k))) | _,_ => none)
       | _,_ => none)
    | .builtin .min =>
      (match c.args.toList with
       | [x,y] => (match ev st x,ev st y with | some (.a (.v (.int k m))),some (.a (.v (.int _ n))) => some ([],.a (.v (.int k (if n < m then n else m)))) | _,_ => none)
       | _ => none)
    | .builtin .max =>
      (match c.args.toList with
       | [x,y] => (match ev st x,ev st y with | some (.a (.v (.int k m))),some (.a (.v (.int _ n))) => some ([],.a (.v (.int k (if n > m then n else m)))) | _,_ => none)
       | _ => none)
    | _ => none)
 | _ => none
end Go.Sy
end
section
namespace Go.Sy
open Go
universe u
/-! ### What speaks of a region is forgotten -/
def memN (r : Nat) : List Nat → Bool
 | [] => false
 | x :: l => match Nat.beq x r with | true => true | false => memN r l
def isNil {α : Type u} : List α → Bool
 | [] => true
 | _ => false
def At.kill (top deep : Bool) (r : Nat) : At → At
 | .p r' π i j => match Nat.beq r' r,isNil π with | false,_ => .p r' π i j | true,true => (match top with | true => .any | false => .p r' π i j) | true,false => (match deep with | true => .any | false => .p r' π i j)
 | .sl r' π lo n => match Nat.beq r' r,isNil π with | false,_ => .sl r' π lo n | true,true => (match top with | true => .any | false => .sl r' π lo n) | true,false => (match deep with | true => .any | false => .sl r' π lo n)
 | .fn f l => match top,memN r l with | true,true => .any | _,_ => .fn f l
 | .mp r' => match Nat.beq r' r,top with | true,true => .any | _,_ => .mp r'
 | .it r' => match Nat.beq r' r,top with | true,true => .any | _,_ => .it r'
 | .yl r' => match Nat.beq r' r,top with | true,true => .any | _,_ => .yl r'
 | x => x
def C1.mapA (f : At → At) : C1 → C1
 | .a x => .a (f x)
 | .agg l => .agg (l.map f)
def Tm.mapA (f : At → At) : Tm → Tm
 | .a x => .a (f x)
 | .agg l => .agg (l.map f)
 | .tup l => .tup (l.map (C1.mapA f))
def Tr.mapK (f : Tm → Tm) (t : Tr) (k : Tr → Prop) : Prop :=
 Tr.rec (motive:=fun _ => (Tr → Prop) → Prop) (fun k => k .nil)
  (fun x _ _ fl fr k => forceT (f x) (fun x => fl (fun l => fr (fun r => k (.node x l r))))) t k
def Tr.map (f : Tm → Tm) : Tr → Tr
 | .nil => .nil
 | .node x l r => .node (f x) (l.map f) (r.map f)
def Sl.map (f : At → At) (s : Sl) : Sl:=⟨s.n,s.t.map (Tm.mapA f)⟩
def Reg.mapA (f : At → At) : Reg → Reg
 | .box o l => .box o (l.map f)
 | .lp b s L q j => .lp b (s.map f) L q j
 | .iter (some r) n l => (match f (.mp r) with | .mp r' => .iter (some r') n l | _ => .dead)
 | g => g
def Sl.mapK (f : At → At) (s : Sl) (k : Sl → Prop) : Prop :=
 match s with
 | ⟨n,t⟩ => t.mapK (Tm.mapA f) (fun t => k ⟨n,t⟩)
def St.mapK (f : At → At) (st : St) (k : St → Prop) : Prop :=
 match st with
 | ⟨tm,fr,rg⟩ => tm.mapK f (fun tm => eachK (Sl.mapK f) fr (fun fr => eachK (fun g k => forceR (Reg.mapA f g) k) rg (fun rg => k ⟨tm,fr,rg⟩)))
def Reg.frozen : Reg → Reg
 | .box _ l => .box false l
 | .arr te tg xs _ _ => .arr te tg xs false false
 | .map t k c es _ => .map t k c es false
 | .mps t kk e tg es _ _ => .mps t kk e tg es false false
 | g => g
/-! ### Values that are put into arrays and maps -/
def grabK (cc : Bool) (st : St) (e : TypeId) (tg : List CK) (x : At) (K : St → List (Tup tg) → Bool → Prop) : Prop :=
 match x with
 | .v (.slice none 0 0) => K st [] true
 | .z => K st [] true
 | .sl r π lo n =>
   (match (match π,st.rg.getD r .dead with
     | [],.arr e' tg' xs true true => (match lo,Nat.beq e' e,tagEq tg' tg with | 0,true,some h => some (castL h.down xs) | _,_,_ => none)
     | _,_ => none) with
    | some ys => oblige cc [(Duty.of (n = ys.length))] (st.setRK r .dead (fun st => K st ys true))
    | none =>
      (match (st.rg.getD r .dead).dn π with
       | some (q,B) =>
         (match Nat.beq B.te e,tagEq B.tg tg,flatK tg with
          | true,some h,true => oblige cc (q ++ [(Duty.of (lo + n ≤ B.xs.length))]) (st.setRK r (st.rg.getD r .dead).frozen (fun st => K st (((castL h.down B.xs).drop lo).take n) false))
          | _,_,_ => False)
       | none => False))
 | _ => False
def cellK (cc : Bool) (st : St) (c : CK) (x : At) (K : St → c.ty → Bool → Prop) : Prop :=
 match c,K with
 | .sl e tg,K => grabK cc st e tg x K
 | .int k,K => (match CK.ofAt (.int k) x with | some y => K st y true | none => False)
 | .bool,K => (match CK.ofAt .bool x with | some y => K st y true | none => False)
 | .str,K => (match CK.ofAt .str x with | some y => K st y true | none => False)
def bAnd (a b : Bool) : Bool:=match a with | true => b | false => false
def consT : (c : CK) → (cs : List CK) → c.ty → Tup cs → Tup (c :: cs)
 | _,[],y,_ => y
 | _,_ :: _,y,z => (y,z)
def cellsK (cc : Bool) (tg : List CK) (st : St) (l : List At) (K : St → Tup tg → Bool → Prop) : Prop :=
 List.rec (motive:=fun tg => St → List At → (St → Tup tg → Bool → Prop) → Prop)
  (fun st l K => match l with | [] => K st () true | _ :: _ => False)
  (fun c cs ih st l K => match l with | [] => False | x :: xs => cellK cc st c x (fun st y b => ih st xs (fun st z b' => K st (consT c cs y z) (bAnd b b')))) tg st l K
def litK (cc : Bool) (tg : List CK) (pos : Nat) (parts : List (Nat × Operand)) (st : St) (K : St → List (Tup tg) → Bool → Prop) : Prop :=
 List.rec (motive:=fun _ => Nat → St → (St → List (Tup tg) → Bool → Prop) → Prop) (fun _ st K => K st [] true)
  (fun io _ ih pos st K => match io with
    | (i,o) =>
      (match Nat.beq i pos,ev st o with
       | true,some x =>
         (match tmCells x with
          | some l => cellsK cc tg st l (fun st a b => ih (pos + 1) st (fun st xs b' => K st (a :: xs) (bAnd b b')))
          | none => False)
       | _,_ => False)) parts pos st K
/-! ### Operations that write or make memory -/
def Tup.upd : (tg : List CK) → Tup tg → Nat → Value → Option (Tup tg)
 | [],_,_,_ => none
 | [c],_,0,v => c.of v
 | [_],_,_ + 1,_ => none
 | c :: c' :: cs,x,0,v => (match c.of v with | some y => some ((y,x.2) : c.ty × Tup (c' :: cs)) | none => none)
 | c :: c' :: cs,x,j + 1,v => (match Tup.upd (c' :: cs) x.2 j v with | some y => some ((x.1,y) : c.ty × Tup (c' :: cs)) | none => none)
def updAll (tg : List CK) (a : Tup tg) (j : Nat) : List At → Option (Tup tg)
 | [] => some a
 | .v x :: xs => (match Tup.upd tg a j x with | some a' => updAll tg a' (j + 1) xs | none => none)
 | .tt :: xs => (match Tup.upd tg a j (.bool true) with | some a' => updAll tg a' (j + 1) xs | none => none)
 | .ff :: xs => (match Tup.upd tg a j (.bool false) with | some a' => updAll tg a' (j + 1) xs | none => none)
 | _ => none
def Ty.cells : Ty → Nat
 | .st _ n => n
 | .ar _ m n => n * m
 | _ => 1
def St.setNK (cc : Bool) (st : St) (r : Nat) (g : Reg) (K : St → Prop) : Prop:=nameR cc g (fun g => st.setRK r g K)
def arrUp (cc : Bool) (st : St) (r : Nat) (π : Path) (C : Ar) (mv : Bool) (K : St → Prop) : Prop :=
 match st.rg.getD r .dead with
 | .arr te tg xs o i => (match Ar.up ⟨te,tg,xs⟩ π C with
   | some ⟨te',tg',xs'⟩ => (match tagEq tg' tg with | some h => (match Nat.beq te' te with | true => St.setNK cc st r (.arr te tg (castL h.down xs') o (bAnd i mv)) K | false => False) | none => False)
   | none => False)
 | _ => False
def Reg.mine (g : Reg) (π : Path) : Bool :=
 match g,π with
 | .arr _ _ _ o _,[] => o
 | .arr _ _ _ _ i,_ :: _ => i
 | _,_ => false
def storeK (cc : Bool) (st : St) (r : Nat) (π : Path) (i j : Nat) (l : List At) (K : St → Prop) : Prop :=
 match st.rg.getD r .dead with
 | .box true cells => (match π,i,Nat.ble (j + l.length) cells.length with | [],0,true => st.setRK r (.box true (fillL cells j l)) K | _,_,_ => False)
 | g =>
   (match g.mine π,g.dn π with
    | true,some (q,B) =>
      (match updAll B.tg (B.get i) j l with
       | some a => oblige cc (q ++ [(Duty.of (i < B.xs.length))]) (arrUp cc st r π ⟨B.te,B.tg,B.xs.set i a⟩ true K)
       | none => False)
    | _,_ => False)
def storeMv (st : St) (r : Nat) (π : Path) (i j : Nat) (l : List At) : Option (Nat × List Duty × Reg) :=
 match π,l,st.rg.getD r .dead with
 | [],[.sl r2 [] 0 n],.arr te tg xs true true =>
   (match st.rg.getD r2 .dead,Nat.beq r r2 with
    | .arr e2 tg2 ys true true,false => (match Tup.setSub tg (Ar.get ⟨te,tg,xs⟩ i) j ⟨e2,tg2,ys⟩ with | some b => some (r2,[(Duty.of (i < xs.length)),(Duty.of (n = ys.length))],.arr te tg (xs.set i b) true true) | none => none)
    | _,_ => none)
 | _,_,_ => none
def storeK2 (cc : Bool) (st : St) (r : Nat) (π : Path) (i j : Nat) (l : List At) (K : St → Prop) : Prop :=
 match storeMv st r π i j l with
 | some (r2,q,g) => oblige cc q (st.setRK r2 .dead (fun st => St.mapK (At.kill false true r) st (fun st => St.setNK cc st r g K)))
 | none => storeK cc st r π i j l K
def newsOf (st : St) (tg : List CK) (r : Nat) (π : Path) (lo n : Nat) : Option (List Duty × List (Tup tg)) :=
 match (st.rg.getD r .dead).dn π with
 | some (q,B) => (match tagEq B.tg tg with | some h => some (q ++ [(Duty.of (lo + n ≤ B.xs.length))],((castL h.down B.xs).drop lo).take n) | none => none)
 | none => none
def newsK (cc : Bool) (st : St) (tg : List CK) (r : Nat) (π : Path) (lo n : Nat) (K : St → List (Tup tg) → Bool → Prop) : Prop :=
 match flatK tg with
 | true => (match newsOf st tg r π lo n with | some (q,xs) => oblige cc q (K st xs true) | none => False)
 | false => False
def cap40 : Nat:=1099511627776
def appPut (cc : Bool) (st : St) (d : Option Nat) (r n : Nat) (K : St → Prop) : Prop :=
 match cc with | true => natK n (fun n => st.putK d (.a (.sl r [] 0 n)) K) | false => st.putK d (.a (.sl r [] 0 n)) K
def appMv (E : Env) (st : St) (d : Option Nat) (e : TypeId) (tg : List CK) (r l k r2 n : Nat) (K : St → Prop) : Prop :=
 match st.rg.getD r .dead,st.rg.getD r2 .dead,Nat.beq r r2 with
 | .arr e' tg' xs true inn,.arr _ tg2 ys true true,false =>
   (match Nat.beq e e',tagEq tg tg',tagEq tg2 tg' with
    | true,some _,some h => oblige E.conc [(Duty.of (n = ys.length)),(Duty.of (l + k = xs.length)),(Duty.of ((k + n) * tg'.length ≤ cap40))]
       (st.setRK r2 .dead (fun st => St.mapK (At.kill true true r) st (fun st => St.setNK E.conc st r (.arr e tg' (xs.drop l ++ castL h.down ys) true inn) (fun st => appPut E.conc st d r (k + n) K))))
    | _,_,_ => False)
 | _,_,_ => False
def appSh (E : Env) (st : St) (d : Option Nat) (e : TypeId) (tg : List CK) (r l k r2 lo n : Nat) (K : St → Prop) : Prop :=
 match st.rg.getD r .dead,st.rg.getD r2 .dead,Nat.beq r r2 with
 | .arr e' tg' xs true _,.arr e2 tg2 ys _ false,false =>
   (match Nat.beq e e',tagEq tg tg',tagEq tg2 tg' with
    | true,some _,some h => oblige E.conc [(Duty.of (lo + n ≤ ys.length)),(Duty.of (l + k = xs.length)),(Duty.of ((k + n) * tg'.length ≤ cap40))]
       (st.setRK r2 (.arr e2 tg2 ys false false) (fun st => st.pushK [.dead] (fun st => St.mapK (At.kill true true r) st (fun st => St.setNK E.conc st r (.arr e tg' (xs.drop l ++ ((castL h.down ys).drop lo).take n) true false) (fun st => appPut E.conc st d r (k + n) K)))))
    | _,_,_ => False)
 | _,_,_ => False
def shares (st : St) (r2 : Nat) : Bool:=match st.rg.getD r2 .dead with | .arr _ _ _ _ false => true | _ => false
def appDp (E : Env) (st : St) (d : Option Nat) (e : TypeId) (tg : List CK) (r l k r2 lo n : Nat) (K : St → Prop) : Prop :=
 match shares st r2 with
 | true => appSh E st d e tg r l k r2 lo n K
 | false => (match lo with | 0 => appMv E st d e tg r l k r2 n K | _ => False)
def appZ (E : Env) (st : St) (d : Option Nat) (t t' : TypeId) (n : Int) (K : St → Prop) : Prop :=
 match E.ty t,E.ty t' with
 | .sl e _,.int _ =>
   (match E.kd e with
    | some tg => (match flatK tg with
       | true => oblige E.conc [(Duty.of (0 < n)),(Duty.of (n * tg.length ≤ 16777216))] (lenC E.conc st.rg (fun r => st.pushK [.arr e tg [] true true] (fun st => appPut E.conc st d r n.toNat K)))
       | false => False)
    | none => False)
 | _,_ => False
def appK1 (E : Env) (st : St) (d : Option Nat) (t : TypeId) (s x : Tm) (K : St → Prop) : Prop :=
 match E.ty t with
 | .sl e _ =>
   (match E.kd e with
    | some tg =>
      (match (match x with
        | .a (.v (.slice none 0 0)) => some none
        | .a .z => some none
        | .a (.sl r2 π2 lo n) => some (some (r2,π2,lo,n))
        | _ => none) with
       | some none => (match s with
         | .a (.sl _ _ _ _) => st.putK d s K
         | .a (.v (.slice none 0 0)) => st.putK d s K
         | .a .z => st.putK d s K
         | _ => False)
       | some (some (r2,π2,lo,n)) =>
         (match flatK tg with
          | false =>
            (match π2,s with
             | [],.a (.sl r [] l k) => appDp E st d e tg r l k r2 lo n K
             | [],.a (.v (.slice none 0 0)) => lenC E.conc st.rg (fun r => st.pushK [.arr e tg [] true true] (fun st => appDp E st d e tg r 0 0 r2 lo n K))
             | [],.a .z => lenC E.conc st.rg (fun r => st.pushK [.arr e tg [] true true] (fun st => appDp E st d e tg r 0 0 r2 lo n K))
             | _,_ => False)
          | true =>
             (match s with
              | .a (.sl r [] l k) =>
                (match st.rg.getD r .dead with
                 | .arr e' tg' xs true inn =>
                   (match Nat.beq r r2,Nat.beq e e',tagEq tg tg' with
                    | false,true,some _ => newsK E.conc st tg' r2 π2 lo n (fun st news b => oblige E.conc [(Duty.of (l + k = xs.length)),(Duty.of ((k + n) * tg'.length ≤ cap40))]
                       (St.mapK (At.kill true true r) st (fun st => St.setNK E.conc st r (.arr e tg' (xs.drop l ++ news) true (bAnd inn b)) (fun st => appPut E.conc st d r (k + n) K))))
                    | _,_,_ => False)
                 | _ => False)
              | .a (.v (.slice none 0 0)) => newsK E.conc st tg r2 π2 lo n (fun st news b => oblige E.conc [(Duty.of (n * tg.length ≤ cap40))] (nameR E.conc (.arr e tg news true b) (fun g => lenC E.conc st.rg (fun r => st.pushK [g] (fun st => appPut E.conc st d r n K)))))
              | .a .z => newsK E.conc st tg r2 π2 lo n (fun st news b => oblige E.conc [(Duty.of (n * tg.length ≤ cap40))] (nameR E.conc (.arr e tg news true b) (fun g => lenC E.conc st.rg (fun r => st.pushK [g] (fun st => appPut E.conc st d r n K)))))
              | _ => False))
       | none => False)
    | none => False)
 | _ => False
def c1Of : Tm → Option C1
 | .a x => some (.a x)
 | .agg l => some (.agg l)
 | .tup _ => none
def intArg (st : St) (o : Operand) : Option Int:=match ev st o with | some (.a (.v (.int _ n))) => some n | _ => none
inductive Stuck (o : Oper) : Prop
theorem Stuck.elim {o : Oper} {C : Prop} (h : Stuck o) : C:=by cases h
def mapSetK (E : Env) (st : St) (d : Option Nat) (t : TypeId) (m n x : Operand) (K : St → Prop) : Prop :=
 match E.ty t,ev st m,ev st n,ev st x with
 | .map kt _,some (.a (.mp r)),some (.a (.v (.int k' n))),some (.a x) =>
   (match E.ty kt,st.rg.getD r .dead with
    | .int k,.map t' k2 c es true =>
      (match sameKind k' k,sameKind k2 k,CK.ofAt c x with
       | true,true,some v => St.setNK E.conc st r (.map t' k2 c (mset es n v) true) (fun st => st.putK d (.a .un) K)
       | _,_,_ => False)
    | _,_ => False)
 | _,_,_,_ => False
def castM {kk kk' : List CK} (h : kk = kk') {tg tg' : List CK} (h' : tg = tg') (es : List (Tup kk × List (Tup tg))) : List (Tup kk' × List (Tup tg')):=h ▸ h' ▸ es
def isMps (st : St) (m : Operand) : Option Nat :=
 match ev st m with
 | some (.a (.mp r)) => (match st.rg.getD r .dead with | .mps .. => some r | _ => none)
 | _ => none
def mpsSetK (E : Env) (st : St) (d : Option Nat) (t : TypeId) (r : Nat) (n x : Operand) (K : St → Prop) : Prop :=
 match E.ty t,ev st n,ev st x with
 | .map kt et,some (.agg l),some (.a x) =>
   (match keyTy E kt,valTy E et with
    | some kk,some (e,tg) =>
      (match ofCells kk l with
       | some k => grabK E.conc st e tg x (fun st ys b =>
         (match st.rg.getD r .dead with
          | .mps t' kk' e' tg' es true inn =>
            (match natEq e e',tagEq kk kk',tagEq tg tg' with
             | some _,some h,some h' => St.mapK (At.kill false true r) st (fun st => St.setNK E.conc st r (.mps t' kk' e' tg' (kput kk' (h.down ▸ k) (castL h'.down ys) es) true (bAnd inn b)) (fun st => st.putK d (.a .un) K))
             | _,_,_ => False)
          | _ => False))
       | none => False)
    | _,_ => False)
 | _,_,_ => False
def mpsLook (E : Env) (st : St) (d : Option Nat) (t : TypeId) (r : Nat) (ix : Operand) (ok : Bool) (K : St → Prop) : Prop :=
 match E.ty t,ev st ix,st.rg.getD r .dead with
 | .map kt et,some (.agg l),.mps _ kk e tg es _ _ =>
   (match keyTy E kt,valTy E et,ofCells kk l with
    | some kk',some (e',tg'),some k =>
      (match tagEq kk' kk,natEq e' e,tagEq tg' tg with
       | some _,some _,some _ =>
         (∀ j,kix kk k es = j → j < es.length → st.putK d (match ok with | true => .tup [.a (.sl r [(j,0)] 0 ((es.getD j (Tup.d kk,[])).2).length),.a .tt] | false => .a (.sl r [(j,0)] 0 ((es.getD j (Tup.d kk,[])).2).length)) K) ∧
         (kix kk k es = es.length → st.putK d (match ok with | true => .tup [.a (.v (.slice none 0 0)),.a .ff] | false => .a (.v (.slice none 0 0))) K)
       | _,_,_ => False)
    | _,_,_ => False)
 | _,_,_ => False
def cntC (c : Bool) (n : Nat) (k : Nat → Prop) : Prop:=match c with | true => natK n k | false => k n
def nilOp : BinOp → Option Bool
 | .eql => some false
 | .neq => some true
 | _ => none
def bAt (b : Bool) : At:=match b with | true => .tt | false => .ff
def nilK (E : Env) (st : St) (d : Option Nat) (t : TypeId) (op : BinOp) (x y : Option Tm) (K : St → Prop) : Prop :=
 match E.ty t,nilOp op,x,y with
 | .sl _ _,some b,some (.a x),some (.a (.v (.slice none _ _))) =>
   (match x with
    | .v (.slice none _ _) => (match b with | true => st.putK d (.a .ff) K | false => st.putK d (.a .tt) K)
    | .z => (match E.conc with | true => False | false => ∀ c : Bool,st.putK d (.a (.v (.bool c))) K)
    | .sl _ _ _ n => (match E.conc with
       | true => oblige true [(Duty.of (0 < n))] (st.putK d (.a (bAt b)) K)
       | false => ∀ c : Bool,(0 < n → c = b) → st.putK d (.a (.v (.bool c))) K)
    | _ => False)
 | _,_,_,_ => False
def evM (E : Env) (st : St) (o : Oper) (K : St → Prop) : Prop :=
 match o.op with
 | .box t x =>
   (match ev st x,E.ty t with
    | some _,.other => False
    | some x,ty =>
      (match tmCells x with
       | some l => (match lenIs l ty.cells with | true => lenC E.conc st.rg (fun r => st.pushK [.box true l] (fun st => st.putK o.dst (.a (.p r [] 0 0)) K)) | false => False)
       | none => False)
    | none,_ => False)
 | .alloc t =>
   (match E.ty t,E.zero t with
    | .other,_ => False
    | _,some z => lenC E.conc st.rg (fun r => st.pushK [.box true z] (fun st => st.putK o.dst (.a (.p r [] 0 0)) K))
    | _,none => False)
 | .store t a x =>
   (match ev st a,ev st x,E.ty t with
    | some _,some _,.other => False
    | some (.a (.p r π i j)),some x,ty =>
      (match tmCells x with
       | some l => (match lenIs l ty.cells with | true => storeK2 E.conc st r π i j l (fun st => st.putK o.dst (.a .un) K) | false => False)
       | none => False)
    | _,_,_ => False)
 | .binOp op t x y _ => nilK E st o.dst t op (ev st x) (ev st y) K
 | .buildSlice t n parts =>
   (match E.ty t with
    | .sl e _ =>
      (match E.kd e with
       | some tg => (match Nat.beq n 0,parts.toList with
         | true,[] => st.putK o.dst (.a .z) K
         | _,_ => litK E.conc tg 0 parts.toList st (fun st xs b =>
           (match lenIs xs n with
            | true => oblige E.conc [(Duty.of (0 < n)),(Duty.of (n * tg.length ≤ 16777216))] (lenC E.conc st.rg (fun r => st.pushK [.arr e tg xs true b] (fun st => st.putK o.dst (.a (.sl r [] 0 n)) K)))
            | false => False)))
       | none => False)
    | _ => False)
 | .makeSlice t len cap =>
   (match E.ty t,intArg st len,intArg st cap with
    | .sl e _,some n,some c =>
      (match E.kd e with
       | some tg => oblige E.conc [(Duty.of (0 ≤ n)),(Duty.of (n = c)),(Duty.of (n * tg.length ≤ 16777216))] (lenC E.conc st.rg (fun r => nameR E.conc (.arr e tg (List.replicate n.toNat (Tup.d tg)) true true) (fun g => st.pushK [g] (fun st => appPut E.conc st o.dst r n.toNat K))))
       | none => False)
    | _,_,_ => False)
 | .makeMap t rv =>
   (match E.ty t,rv with
    | .map kt et,none =>
      (match keyTy E kt,valTy E et with
       | some kk,some (e,tg) => lenC E.conc st.rg (fun r => st.pushK [.mps t kk e tg [] true true] (fun st => st.putK o.dst (.a (.mp r)) K))
       | _,_ => (match E.ty kt,E.sc et with
       | .int k,some c => lenC E.conc st.rg (fun r => st.pushK [.map t k c [] true] (fun st => st.putK o.dst (.a (.mp r)) K))
       | _,_ => False))
    | _,_ => False)
 | .range t x =>
   (match E.ty t,ev st x with
    | .map _ _,some (.a (.v (.map none))) => lenC E.conc st.rg (fun r => st.pushK [.iter none 0 []] (fun st => st.putK o.dst (.a (.it r)) K))
    | .map _ _,some (.a (.mp m)) =>
      (match st.rg.getD m .dead with
       | .map _ _ _ es _ => cntC E.conc es.length (fun n => lenC E.conc st.rg (fun r => st.pushK [.iter (some m) n []] (fun st => st.putK o.dst (.a (.it r)) K)))
       | .mps _ _ _ _ es _ _ => cntC E.conc es.length (fun n => lenC E.conc st.rg (fun r => st.pushK [.iter (some m) n []] (fun st => st.putK o.dst (.a (.it r)) K)))
       | _ => False)
    | _,_ => False)
 | .next x isStr =>
   (match isStr,ev st x with
    | false,some (.a (.it r)) =>
      (match st.rg.getD r .dead with
       | .iter none _ _ => st.putK o.dst (.tup [.a .ff]) K
       | .iter (some m) n seen =>
         (match st.rg.getD m .dead with
          | .map _ k c es _ => oblige E.conc [(Duty.of (es.length = n))] (
             (∀ j,j < n → memN j seen = false → st.setRK r (.iter (some m) n (j :: seen)) (fun st => st.putK o.dst (.tup [.a .tt,.a (.v (.int k (es.getD j (0,c.d)).1)),.a (c.pl (es.getD j (0,c.d)).2)]) K)) ∧
             ((∀ j,j < n → memN j seen = true) → st.putK o.dst (.tup [.a .ff]) K))
          | .mps _ kk _ _ es _ _ => oblige E.conc [(Duty.of (es.length = n))] (
             (∀ j,j < n → memN j seen = false → st.setRK r (.iter (some m) n (j :: seen)) (fun st => st.putK o.dst (.tup [.a .tt,.agg (Tup.pls kk (es.getD j (Tup.d kk,[])).1),.a .any]) K)) ∧
             ((∀ j,j < n → memN j seen = true) → st.putK o.dst (.tup [.a .ff]) K))
          | _ => False)
       | _ => False)
    | _,_ => False)
 | .mapUpdate t m n x => (match isMps st m with | some r => mpsSetK E st o.dst t r n x K | none => mapSetK E st o.dst t m n x K)
 | .insert t m n x => (match isMps st m with | some r => mpsSetK E st o.dst t r n x K | none => mapSetK E st o.dst t m n x K)
 | .lookup t m n ok => (match isMps st m with | some r => mpsLook E st o.dst t r n ok K | none => False)
 | .call c =>
   (match c.callee with
    | .builtin .append =>
      (match c.args.toList,c.argTypes.toList with
       | [s,x],[t,t'] => (match Nat.beq t t',ev st s,ev st x with
         | true,some s,some x => appK1 E st o.dst t s x K
         | false,some (.a (.v (.slice none 0 0))),some (.a (.v (.int .i64 n))) => appZ E st o.dst t t' n K
         | _,_,_ => False)
       | _,_ => False)
    | _ => Stuck o)
 | _ => Stuck o
/-! ### Calls -/
def evCallee (st : St) (f : Operand) : Option (FuncId × List Tm) :=
 match ev st f with
 | some (.a (.fn f caps)) => some (f,caps.map fun r => .a (.p r [] 0 0))
 | _ => none
def At.ren (f : Nat → Nat) : At → At
 | .p r π i j => .p (f r) π i j
 | .sl r π lo n => .sl (f r) π lo n
 | .fn g l => .fn g (l.map f)
 | .mp r => .mp (f r)
 | .it r => .it (f r)
 | .yl r => .yl (f r)
 | x => x
def Tm.ren (f : Nat → Nat) : Tm → Tm:=Tm.mapA (At.ren f)
def Res.intoK (st : St) (d : Option Nat) (res : Res) (k : St → Prop) : Prop :=
 lenK st.rg (fun n => st.pushK res.rg (fun st => st.putK d (res.tm.ren (fun r => n + r)) k))
def chK (cc : Bool) (st : St) (l : List (Nat × Reg)) (k : St → Prop) : Prop :=
 List.rec (motive:=fun _ => St → (St → Prop) → Prop) (fun st k => k st) (fun rg _ ih st k => match rg with | (r,g) => St.setNK cc st r g (fun st => ih st k)) l st k
abbrev Cl:=Body → List Tm → St → (Tm → St → Prop) → Prop
def evCall (E : Env) (cl : Cl) (st : St) (o : Oper) (c : Call) (K : St → Prop) : Prop :=
 match c.callee with
 | .value f =>
   (match evCallee st f,evAll st c.args.toList with
    | some (f,caps),some args =>
      (match E.ct f with
       | some (.fn F) => (match F (args ++ caps) st.rg with | some (q,t) => oblige E.conc q (st.putN E o t K) | none => False)
       | some (.new C) => C (args ++ caps) st.rg (fun res => res.intoK st o.dst K)
       | some (.rel C) => C (args ++ caps) st.rg (fun ch res => chK E.conc st ch (fun st => res.intoK st o.dst K))
       | none => (match E.inl f with | some b => cl b (args ++ caps) st (fun x st => st.putK o.dst x K) | none => Stuck o))
    | _,_ => False)
 | _ => False
def callOf (o : Oper) : Option Call:=match o.op with | .call c => (match c.callee with | .value _ => some c | _ => none) | _ => none
def splitIx (st : St) (d : Option Nat) (m : Nat) (i : Int) (K : St → Prop) (n : Nat) (l : List At) (k : Nat) : Prop :=
 Nat.rec (motive:=fun _ => List At → Nat → Prop) (fun _ _ => True)
  (fun _ ih l k => (i = (k : Int) → st.putK d (match l.take m with | [x] => .a x | l => .agg l) K) ∧ ih (l.drop m) (k + 1)) n l k
def evOp (E : Env) (cl : Cl) (st : St) (o : Oper) (K : St → Prop) : Prop :=
 match callOf o with
 | some c => evCall E cl st o c K
 | none =>
   match evP E st o with
   | some (q,x) => oblige E.conc q (st.putN E o x K)
   | none =>
     match o.op with
     | .index t x ix =>
       (match E.ty t,ev st x,ev st ix with
        | .ar e m n,some (.agg l),some (.a (.v (.int _ i))) => oblige E.conc [(Duty.of (0 ≤ i ∧ i < n))] (match E.ty e,lenIs l (n * m) with | .st _ _,_ => False | .ar _ _ _,_ => False | .other,_ => False | _,true => splitIx st o.dst m i K n l 0 | _,_ => False)
        | _,_,_ => False)
     | _ => evM E st o K
def evGuard (cc : Bool) (st : St) (ops : Array Oper) (g : Option (Nat × Bool)) (yes no : St → Prop) : Prop :=
 match g with
 | none => yes st
 | some (j,want) =>
   match (ops[j]?).bind (·.dst) with
   | none => False
   | some d =>
     match st.tm.get d with
     | .a .un => no st
     | .a .tt => (match want with | true => yes st | false => no st)
     | .a .ff => (match want with | true => no st | false => yes st)
     | .a (.v (.bool b)) =>
       (match cc with
        | true => (match b,want with
          | true,true => st.putK (some d) (.a .tt) yes
          | true,false => st.putK (some d) (.a .tt) no
          | false,true => st.putK (some d) (.a .ff) no
          | false,false => st.putK (some d) (.a .ff) yes)
        | false => match want with
        | true => (b = true → st.putK (some d) (.a .tt) yes) ∧ (b = false → st.putK (some d) (.a .ff) no)
        | false => (b = true → st.putK (some d) (.a .tt) no) ∧ (b = false → st.putK (some d) (.a .ff) yes))
     | _ => False
def evOps (E : Env) (cl : Cl) (ops : Array Oper) (l : List Oper) : St → (St → Prop) → Prop :=
 List.rec (motive:=fun _ => St → (St → Prop) → Prop) (fun st K => K st)
  (fun o _ ih st K => evGuard E.conc st ops o.guard (fun st => evOp E cl st o (fun st => ih st K)) (fun st => st.putK o.dst (.a .un) (fun st => ih st K))) l
abbrev Rd:=Nat → List Tm → St → (Tm → St → Prop) → Prop
def yieldOf (st : St) (o : Oper) : Option (Nat × List Tm) :=
 match o.op with
 | .call c =>
   (match c.callee with
    | .value f => (match ev st f,evAll st c.args.toList with | some (.a (.yl r)),some l => some (r,l) | _,_ => none)
    | _ => none)
 | _ => none
def evOpsY (E : Env) (cl : Cl) (rd : Rd) (ops : Array Oper) (l : List Oper) : St → (St → Prop) → Prop :=
 List.rec (motive:=fun _ => St → (St → Prop) → Prop) (fun st K => K st)
  (fun o _ ih st K => evGuard E.conc st ops o.guard
    (fun st => match yieldOf st o with
      | some (r,args) => rd r args st (fun x st => st.putK o.dst x (fun st => ih st K))
      | none => evOp E cl st o (fun st => ih st K))
    (fun st => st.putK o.dst (.a .un) (fun st => ih st K))) l
/-! ### Regions that draw their order -/
def At.sure : At → Bool
 | .any => false
 | .sl _ _ _ _ => false
 | .z => false
 | .err => false
 | _ => true
def C1.sure : C1 → Bool
 | .a x => x.sure
 | .agg l => allL At.sure l
def Tm.sure : Tm → Bool
 | .a x => x.sure
 | .agg l => allL At.sure l
 | .tup l => allL C1.sure l
def readOp (o : Oper) : Bool :=
 match o.op with
 | .move _ | .assign _ | .load .. | .extract .. | .slice _ _ _ _ none => true
 | .lookup _ _ _ false => true
 | _ => false
def pureOp (o : Oper) : Bool:=match o.op with | .move _ | .assign _ | .fieldAddr .. | .indexAddr .. | .build .. | .unOp .. | .binOp .. | .nilCheck .. | .extract .. => true | _ => false
def calm (o : Oper) (x : Tm) : Bool:=match readOp o with | true => true | false => (match pureOp o with | true => true | false => x.sure)
def evQ1 (E : Env) (st : St) (o : Oper) : Option (List Duty × Tm) :=
 match callOf o with
 | some c =>
   (match c.callee with
    | .value f =>
      (match evCallee st f,evAll st c.args.toList with
       | some (f,caps),some args =>
         (match E.ct f with
          | some (.fn F) => F (args ++ caps) st.rg
          | _ => none)
       | _,_ => none)
    | _ => none)
 | none => evP E st o
def evQ (E : Env) (ops : Array Oper) (l : List Oper) : St → (St → Prop) → Prop :=
 List.rec (motive:=fun _ => St → (St → Prop) → Prop) (fun st K => K st)
  (fun o _ ih st K => evGuard E.conc st ops o.guard
    (fun st => match evQ1 E st o with
      | some (q,x) => oblige E.conc q (match calm o x with | true => st.putN E o x (fun st => ih st K) | false => False)
      | none => False)
    (fun st => st.putK o.dst (.a .un) (fun st => ih st K))) l
def quietOp (o : Oper) : Bool :=
 match o.op with
 | .box .. | .alloc .. | .store .. | .buildSlice .. | .makeSlice .. | .makeMap .. | .mapUpdate .. | .insert .. | .range .. | .next .. => false
 | .call { callee:=.builtin .append,.. } => false
 | .call { callee:=.builtin .copy,.. } => false
 | _ => true
def headLen : List Oper → Nat
 | [] => 0
 | o :: l => match quietOp o with | true => headLen l + 1 | false => 0
structure Tk (b : Bool) : Prop where
 h : b = true
abbrev LexB (l : List Oper) : Prop:=Tk (Region.lexB .any l.toArray)
def stepB (ops : Array Oper) (k : Nat) (listed : Array Bool) : Bool :=
 (Region.ready .any ops listed).contains k && (decide (Region.ready .any ops listed = [k]) || Region.free .any ops listed k)
def upTo (ops : Array Oper) : Nat → Array Bool
 | 0 => Array.replicate ops.size false
 | k + 1 => (upTo ops k).setIfInBounds k true
def forcedB (ops : Array Oper) (k : Nat) : Bool:=decide (Region.ready .any ops (upTo ops k) = [k])
def tailB (ops : Array Oper) (n : Nat) : Bool:=Nat.beq n ops.size || (decide (n < ops.size) && Region.sinkB .any ops n && Region.chainB .any ops n)
def lexGB (ops : Array Oper) (n : Nat) : Bool :=
 Region.noSelect ops && decide (n ≤ ops.size) && tailB ops n && (List.range n).all (fun k => stepB ops k (upTo ops k)) && Region.seqB .any ops (ops.size - n) n (upTo ops n)
abbrev LexG (l : List Oper) (n : Nat) : Prop:=Tk (lexGB l.toArray n)
abbrev Forced (l : List Oper) (k : Nat) : Prop:=Tk (forcedB l.toArray k)
def notStore (o : Oper) : Bool :=
 match o.op with
 | .store .. | .mapUpdate .. | .insert .. | .next .. => false
 | .call { callee:=.builtin .append,.. } => false
 | _ => true
def keeps (E : Env) (o : Oper) : Bool :=
 match o.op with
 | .call c => (match c.callee with | .value (.func f) => (match E.ct f with | some (.fn _) => true | some (.new _) => true | _ => false) | .value _ => false | _ => notStore o)
 | _ => notStore o
def storeAt : List Oper → Nat
 | [] => 0
 | o :: l => match notStore o with | true => storeAt l + 1 | false => 0
def testK (cc b : Bool) (p q : Prop) : Prop:=match cc with | true => (match b with | true => q | false => False) | false => p ∧ q
def evG (E : Env) (cl : Cl) (l : List Oper) (ops : Array Oper) (hd : List Oper) : Nat → St → (St → Prop) → Prop :=
 List.rec (motive:=fun _ => Nat → St → (St → Prop) → Prop) (fun _ st K => K st)
  (fun o _ ih k st K => evGuard E.conc st ops o.guard
    (fun st => match evQ1 E st o with
      | some (q,x) => (match calm o x with | true => oblige E.conc q (st.putN E o x (fun st => ih (k + 1) st K)) | false => False)
      | none => (match keeps E o with | true => testK E.conc (forcedB l.toArray k) (Forced l k) (evOp E cl st o (fun st => ih (k + 1) st K)) | false => False))
    (fun st => st.putK o.dst (.a .un) (fun st => ih (k + 1) st K))) hd
def upD (ops : Array Oper) (done : List Nat) : Array Bool:=done.foldl (fun a i => a.setIfInBounds i true) (Array.replicate ops.size false)
def lexPB (ops : Array Oper) (ord : List Nat) : Bool :=
 Region.noSelect ops && decide (ord.length ≤ ops.size) && tailB ops ord.length && (List.range ord.length).all (fun k => stepB ops (ord.getD k 0) (upD ops (ord.take k)) && decide (ord.getD k 0 < ord.length)) && Region.seqB .any ops (ops.size - ord.length) ord.length (upD ops ord)
abbrev LexP (l : List Oper) (ord : List Nat) : Prop:=Tk (lexPB l.toArray ord)
def forcedD (ops : Array Oper) (done : List Nat) (i : Nat) : Bool:=decide (Region.ready .any ops (upD ops done) = [i])
abbrev ForcedP (l : List Oper) (done : List Nat) (i : Nat) : Prop:=Tk (forcedD l.toArray done i)
def evGp (E : Env) (cl : Cl) (l : List Oper) (ops : Array Oper) (ord : List Nat) : List Nat → St → (St → Prop) → Prop :=
 List.rec (motive:=fun _ => List Nat → St → (St → Prop) → Prop) (fun _ st K => K st)
  (fun i _ ih done st K => match l[i]? with
    | none => False
    | some o => evGuard E.conc st ops o.guard
      (fun st => match evQ1 E st o with
        | some (q,x) => (match calm o x with | true => oblige E.conc q (st.putN E o x (fun st => ih (done ++ [i]) st K)) | false => False)
        | none => (match keeps E o with | true => testK E.conc (forcedD l.toArray done i) (ForcedP l done i) (evOp E cl st o (fun st => ih (done ++ [i]) st K)) | false => False))
      (fun st => st.putK o.dst (.a .un) (fun st => ih (done ++ [i]) st K))) ord
/-! ### Regions that draw: every order,by a tree -/
def OT.heads : OT → List Nat
 | .fin => []
 | .alt i _ m => i :: OT.heads m
 | .take _ _ => []
def OT.isFin : OT → Bool
 | .fin => true
 | _ => false
def OT.next (t : OT) (p q : Prop) : Prop :=
 match t with
 | .fin => p
 | _ => q
def okT (ops : Array Oper) : OT → Bool → Nat → Array Bool → Bool
 | .fin,b,_,listed => !b || decide (Region.ready .any ops listed = [])
 | .take i t,b,n,listed => b && (Region.free .any ops listed i && ((Region.ready .any ops listed).contains i && (decide (n ≠ 0) && okT ops t true (n - 1) (listed.setIfInBounds i true))))
 | .alt i t m,b,n,listed => (!b || decide (OT.heads (.alt i t m) = Region.ready .any ops listed)) && (decide (n ≠ 0) && (okT ops t true (n - 1) (listed.setIfInBounds i true) && okT ops m false n listed))
def okTree (ops : Array Oper) (t : OT) : Bool:=Region.noSelect ops && (!OT.isFin t && okT ops t true ops.size (Array.replicate ops.size false))
abbrev LexT (l : List Oper) (t : OT) : Prop:=Tk (okTree l.toArray t)
def evAlts (E : Env) (cl : Cl) (l : List Oper) (ops : Array Oper) (K : St → Prop) (t : OT) : St → Prop :=
 OT.rec (motive:=fun _ => St → Prop) (fun _ => True)
  (fun i t _ it im st =>
    (match l[i]? with
     | some o => evGuard E.conc st ops o.guard (fun st => evOp E cl st o (fun st => OT.next t (K st) (it st))) (fun st => st.putK o.dst (.a .un) (fun st => OT.next t (K st) (it st)))
     | none => False) ∧ im st)
  (fun i t it st =>
    (match l[i]? with
     | some o => evGuard E.conc st ops o.guard (fun st => match pureOp o,evP E st o with
        | true,some (q,x) => oblige E.conc q (st.putN E o x (fun st => OT.next t (K st) (it st)))
        | _,_ => False) (fun st => st.putK o.dst (.a .un) (fun st => OT.next t (K st) (it st)))
     | none => False)) t
def okH (ops : Array Oper) (n : Nat) : OT → Bool → Nat → Array Bool → Bool
 | .fin,b,f,listed => !b || (Nat.beq f 0 && Region.seqB .any ops (ops.size - n) n listed)
 | .take i t,b,f,listed => b && (stepB ops i listed && (decide (i < n) && (decide (f ≠ 0) && okH ops n t true (f - 1) (listed.setIfInBounds i true))))
 | .alt i t m,b,f,listed => (!b || decide (OT.heads (.alt i t m) = Region.ready .any ops listed)) && (decide (i < n) && (decide (f ≠ 0) && (okH ops n t true (f - 1) (listed.setIfInBounds i true) && okH ops n m false f listed)))
def okHead (ops : Array Oper) (n : Nat) (t : OT) : Bool:=Region.noSelect ops && (decide (n ≤ ops.size) && (tailB ops n && (!OT.isFin t && okH ops n t true n (Array.replicate ops.size false))))
abbrev LexH (l : List Oper) (n : Nat) (t : OT) : Prop:=Tk (okHead l.toArray n t)
def evH (E : Env) (cl : Cl) (l : List Oper) (ops : Array Oper) (K : St → Prop) (t : OT) : St → Prop :=
 OT.rec (motive:=fun _ => St → Prop) (fun _ => True)
  (fun i t _ it im st =>
    (match l[i]? with
     | some o => evGuard E.conc st ops o.guard (fun st => match keeps E o with | true => evOp E cl st o (fun st => OT.next t (K st) (it st)) | false => False) (fun st => st.putK o.dst (.a .un) (fun st => OT.next t (K st) (it st)))
     | none => False) ∧ im st)
  (fun i t it st =>
    (match l[i]? with
     | some o => evGuard E.conc st ops o.guard (fun st => match evQ1 E st o with
        | some (q,x) => (match calm o x with | true => oblige E.conc q (st.putN E o x (fun st => OT.next t (K st) (it st))) | false => False)
        | none => False) (fun st => st.putK o.dst (.a .un) (fun st => OT.next t (K st) (it st)))
     | none => False)) t
def isAny : At → Bool
 | .any => true
 | _ => false
def Reg.anyBox : Reg → Reg
 | .box o l => .box o (l.map fun _ => .any)
 | g => g
def weakK (l : List Nat) (st : St) (K : St → Prop) : Prop :=
 List.rec (motive:=fun _ => St → (St → Prop) → Prop) (fun st K => K st) (fun r _ ih st K => st.setRK r (st.rg.getD r .dead).anyBox (fun st => ih st K)) l st K
def storeBox (E : Env) (st : St) (o : Oper) : Option (Nat × Nat × List At × List At) :=
 match o.op,o.dst,o.guard with
 | .store t a x,none,none =>
   (match ev st a,ev st x,E.ty t with
    | some _,some _,.other => none
    | some (.a (.p r [] 0 j)),some x,ty =>
      (match tmCells x,st.rg.getD r .dead with
       | some l,.box true cells => (match lenIs l ty.cells,Nat.ble (j + l.length) cells.length,allL isAny cells with | true,true,true => some (r,j,cells,l) | _,_,_ => none)
       | _,_ => none)
    | _,_,_ => none)
 | _,_,_ => none
def evNew (E : Env) (st : St) (o : Oper) (K : St → Prop) : Prop :=
 match o.op,o.guard with
 | .alloc t,none =>
   (match E.ty t,E.zero t with
    | .other,_ => False
    | _,some z => lenC E.conc st.rg (fun r => st.pushK [.box true (z.map fun _ => .any)] (fun st => st.putK o.dst (.a (.p r [] 0 0)) K))
    | _,none => False)
 | .makeSlice t len cap,none =>
   (match E.ty t,intArg st len,intArg st cap with
    | .sl e _,some n,some c =>
      (match E.kd e with
       | some tg => oblige E.conc [(Duty.of (0 ≤ n)),(Duty.of (n = c)),(Duty.of (n * tg.length ≤ 16777216))] (lenC E.conc st.rg (fun r => st.pushK [.arr e tg (List.replicate n.toNat (Tup.d tg)) true true] (fun st => st.putK o.dst (.a (.sl r [] 0 n.toNat)) K)))
       | none => False)
    | _,_,_ => False)
 | _,_ => False
def evS (E : Env) (l : List Oper) (K : St → Prop) (t : OT) : St → Prop :=
 OT.rec (motive:=fun _ => St → Prop) (fun _ => True)
  (fun i t _ it im st =>
    (match l[i]? with
     | some o => (match storeBox E st o with | some (r,j,cells,l) => st.setRK r (.box true (fillL cells j l)) (fun st => OT.next t (K st) (it st)) | none => evNew E st o (fun st => OT.next t (K st) (it st)))
     | none => False) ∧ im st)
  (fun i t it st =>
    (match l[i]? with
     | some o => (match o.guard,evQ1 E st o with
        | none,some (q,x) => (match x.sure with | true => oblige E.conc q (st.putN E o x (fun st => OT.next t (K st) (it st))) | false => False)
        | _,_ => False)
     | none => False)) t
def evDraw (E : Env) (cl : Cl) (id : Nat) (l : List Oper) (st : St) (K : St → Prop) : Prop :=
 match E.str id with
 | some dt => testK E.conc (okHead l.toArray l.length dt.2) (LexH l l.length dt.2) (weakK dt.1 st (fun st => evS E l K dt.2 st))
 | none =>
 match E.htr id with
 | some nt => testK E.conc (okHead l.toArray nt.1 nt.2) (LexH l nt.1 nt.2) (evH E cl l l.toArray (fun st => evOps E cl l.toArray (l.drop nt.1) st K) nt.2 st)
 | none =>
 match E.tree id with
 | some t => testK E.conc (okTree l.toArray t) (LexT l t) (evAlts E cl l l.toArray K t st)
 | none =>
 match E.ord id with
 | some ord => testK E.conc (lexPB l.toArray ord) (LexP l ord) (evGp E cl l l.toArray ord [] st (fun st => evOps E cl l.toArray (l.drop ord.length) st K))
 | none =>
 match Nat.beq (headLen l) l.length with
 | true => testK E.conc (Region.lexB .any l.toArray) (LexB l) (evQ E l.toArray l st K)
 | false => testK E.conc (lexGB l.toArray (storeAt l)) (LexG l (storeAt l)) (evG E cl l l.toArray (l.take (storeAt l)) 0 st (fun st => evOps E cl l.toArray (l.drop (storeAt l)) st K))
/-! ### Code -/
inductive Ex where
 | normal
 | exit (id : Nat)
 | ret
def rn (is : List Nat) (r : Nat) : Nat:=match is[r]? with | some k => k | none => r
def leA (is : List Nat) (m n : Nat) : At → At → Prop
 | _,.any => True
 | .un,.un => True
 | .v (.slice none 0 0),.z => True
 | .z,.z => True
 | .v (.slice none 0 0),.sl r' π' lo k => m ≤ rn is r' ∧ r' < n ∧ π' = [] ∧ lo = 0 ∧ k = 0
 | .z,.sl r' π' lo k => m ≤ rn is r' ∧ r' < n ∧ π' = [] ∧ lo = 0 ∧ k = 0
 | .v (.int k a),.v (.int k' b) => k = k' ∧ a = b
 | .v (.bool a),.v (.bool b) => a = b
 | .v x,.v y => x = y
 | .tt,.tt => True
 | .ff,.ff => True
 | .tt,.v (.bool b) => b = true
 | .ff,.v (.bool b) => b = false
 | .p r π i j,.p r' π' i' j' => r' < n ∧ r < m ∧ r = rn is r' ∧ π = π' ∧ i = i' ∧ j = j'
 | .sl r π lo k,.sl r' π' lo' k' => r' < n ∧ r < m ∧ r = rn is r' ∧ π = π' ∧ lo = lo' ∧ k = k'
 | .fn f l,.fn f' l' => f = f' ∧ l = l'.map (rn is) ∧ ∀ r ∈ l',r < n ∧ rn is r < m
 | .mp r,.mp r' => r' < n ∧ r < m ∧ r = rn is r'
 | .it r,.it r' => r' < n ∧ r < m ∧ r = rn is r'
 | .yl r,.yl r' => r' < n ∧ r < m ∧ r = rn is r'
 | .err,.err => True
 | _,_ => False
def leAs (is : List Nat) (m n : Nat) : List At → List At → Prop
 | [],[] => True
 | x :: xs,y :: ys => leA is m n x y ∧ leAs is m n xs ys
 | _,_ => False
def leC (is : List Nat) (m n : Nat) : C1 → C1 → Prop
 | .a x,.a y => leA is m n x y
 | .agg l,.agg l' => leAs is m n l l'
 | _,_ => False
def leCs (is : List Nat) (m n : Nat) : List C1 → List C1 → Prop
 | [],[] => True
 | x :: xs,y :: ys => leC is m n x y ∧ leCs is m n xs ys
 | _,_ => False
def leT (is : List Nat) (m n : Nat) : Tm → Tm → Prop
 | _,.a .any => True
 | .a x,.a y => leA is m n x y
 | .agg l,.agg l' => leAs is m n l l'
 | .tup l,.tup l' => leCs is m n l l'
 | _,_ => False
def leTr (is : List Nat) (m n : Nat) (t t' : Tr) : Prop :=
 Tr.rec (motive:=fun _ => Tr → Prop) (fun _ => True)
  (fun y _ _ fl fr t => match t with
    | .nil => (match y with | .a .any => True | _ => False) ∧ fl .nil ∧ fr .nil
    | .node x l r => leT is m n x y ∧ fl l ∧ fr r) t' t
def leS (is : List Nat) (m n : Nat) (s s' : Sl) : Prop:=s.n = s'.n ∧ leTr is m n s.t s'.t
def leF (is : List Nat) (m n : Nat) : List Sl → List Sl → Prop
 | [],[] => True
 | x :: xs,y :: ys => leS is m n x y ∧ leF is m n xs ys
 | _,_ => False
def flagLe : Bool → Bool → Prop
 | true,_ => True
 | false,b => b = false
def leR (is : List Nat) (m n : Nat) : Reg → Reg → Prop
 | _,.dead => True
 | .box o l,.box o' l' => flagLe o o' ∧ leAs is m n l l'
 | .arr te tg xs o i,.arr te' tg' xs' o' i' => (∃ h : tg = tg',te = te' ∧ castL h xs = xs') ∧ flagLe o o' ∧ flagLe i i'
 | .map t k c es o,.map t' k' c' es' o' => (∃ h : c = c',t = t' ∧ k = k' ∧ castE h es = es') ∧ flagLe o o'
 | .mps t kk e tg es o i,.mps t' kk' e' tg' es' o' i' => (∃ (h : kk = kk') (h' : tg = tg'),t = t' ∧ e = e' ∧ castM h h' es = es') ∧ flagLe o o' ∧ flagLe i i'
 | .iter (some r) k l,.iter (some r') k' l' => (k = k' ∧ l = l') ∧ r' < n ∧ r < m ∧ r = rn is r'
 | .iter none k l,.iter none k' l' => k = k' ∧ l = l'
 | .lp b s L q j,.lp b' s' L' q' j' => leS is m n s s' ∧ b = b' ∧ L = L' ∧ q = q' ∧ j = j'
 | _,_ => False
def nilR : Reg → Prop
 | .dead => True
 | .arr _ tg xs _ _ => xs = [] ∧ tg ≠ []
 | _ => False
def leRs (is : List Nat) (m n : Nat) (rg : List Reg) : Nat → List Reg → Prop
 | _,[] => True
 | k,y :: ys => (match Nat.blt (rn is k) m with | true => leR is m n (rg.getD (rn is k) .dead) y | false => nilR y) ∧ leRs is m n rg (k + 1) ys
def injB (is : List Nat) (m : Nat) : Nat → List Nat → Bool
 | 0,_ => true
 | n + 1,seen => match Nat.blt (rn is n) m with
   | false => injB is m n seen
   | true => (match memN (rn is n) seen with | true => false | false => injB is m n (rn is n :: seen))
def Le (is : List Nat) (st st' : St) : Prop :=
 lenK st.rg (fun m => lenK st'.rg (fun n => leS is m n st.tm st'.tm ∧ leF is m n st.fr st'.fr ∧ leRs is m n st.rg 0 st'.rg ∧ injB is m n [] = true))
def LoopInv (F : St → (Ex → St → Prop) → Prop) (st : St) (K : Ex → St → Prop) : Prop :=
 ∃ (X : Type) (I : X → Prop) (S : X → St) (μ : X → Nat) (x0 : X) (is0 : List Nat),I x0 ∧ Le is0 st (S x0) ∧
  ∀ x,I x → F (S x) (fun e st' => match e with
   | .normal => ∃ (x' : X) (is : List Nat),I x' ∧ Le is st' (S x') ∧ μ x' < μ x
   | e => K e st')
def roundsK (f : St → (Ex → St → Prop) → Prop) (n : Nat) : St → (Ex → St → Prop) → Prop :=
 Nat.rec (motive:=fun _ => St → (Ex → St → Prop) → Prop) (fun _ _ => False)
  (fun _ ih st K => f st (fun e st' => match e with | .normal => ih st' K | e => K e st')) n
def evLoop (f : St → (Ex → St → Prop) → Prop) (n : Nat) (st : St) (K : Ex → St → Prop) : Prop :=
 match n with
 | 0 => LoopInv f st K
 | n + 1 => roundsK f (n + 1) st K
def Env.cuts (E : Env) : Code → Bool
 | .seq _ (.cond (.tmp t) _ _) => E.cut t
 | .region id _ draw => match draw with | true => (match E.cut (1000 + id) with | true => true | false => E.cut (2000 + id)) | false => E.cut (1000 + id)
 | _ => false
def evRange (E : Env) (cl : Cl) (rn : Option (Nat × Nat)) (g : Operand) (ps : Array Tmp) (asg body : Code) (st : St) (K : Ex → St → Prop) : Prop :=
 match ev st g with
 | some (.a (.fn f caps)) =>
   (match E.ct f,E.inl f with
    | none,some b =>
      (match rn with
       | none => True
       | some (r0,b0) => (match st.rg.getD r0 .dead with | .lp b1 _ _ _ _ => b1 = b0 | _ => False)) ∧
      ∀ (l : Nat) (fn : FuncId) (T : Array Value) (D : Nat),lenC E.conc st.rg (fun r =>
       St.pushK st [.lp l st.tm { state:=.ready,pending:=none,fn:=fn,tmps:=T,params:=ps,assign:=asg,body:=body,defers:=D } .ready none]
        (fun st => cl b (.a (.yl r) :: caps.map (fun r => .a (.p r [] 0 0))) st (fun _ st' =>
          match st'.rg.getD r .dead with
          | .lp l' _ _ q j => l' = l ∧ St.setRK st' r .dead (fun st => match q,j with
             | .ready,none => K .normal st
             | .done,some .ret => K .ret st
             | .done,some (.exit id) => K (.exit id) st
             | _,_ => False)
          | _ => False)))
    | _,_ => False)
 | _ => False
def noDefer (o : Oper) : Bool:=match o.op with | .defer _ => false | _ => true
def evC (E : Env) (cl : Cl) (rd : Rd) (rn : Option (Nat × Nat)) (c : Code) : St → (Ex → St → Prop) → Prop :=
 Code.rec (motive:=fun _ => St → (Ex → St → Prop) → Prop)
  (fun st K => K .normal st)
  (fun id ops draw st K => match draw with
    | true => (match rn with | none => evDraw E cl id ops.toList st (K .normal) | some _ => (match allL noDefer ops.toList with | true => evDraw E cl id ops.toList st (K .normal) | false => False))
    | false => evOpsY E cl rd ops ops.toList st (K .normal))
  (fun a _ fa fb st K => match E.cuts a with
    | true => ∃ (X : Type) (I : X → Prop) (S : X → St),fa st (fun e st' => match e with | .normal => ∃ (x : X) (is : List Nat),I x ∧ Le is st' (S x) | e => K e st') ∧ ∀ x,I x → fb (S x) K
    | false => fa st (fun e st => match e with | .normal => fb st K | e => K e st))
  (fun c _ _ fa fb st K => match ev st c with
    | some (.a .tt) => fa st K
    | some (.a .ff) => fb st K
    | some (.a (.v (.bool t))) => (match E.conc with | true => (match t with | true => fa st K | false => fb st K) | false => (t = true → fa st K) ∧ (t = false → fb st K))
    | _ => False)
  (fun id _ f st K => f st (fun e st => match e with
    | .exit id' => (match Nat.beq id id' with | true => K .normal st | false => K (.exit id') st)
    | e => K e st))
  (fun _ f st K => evLoop f E.un st K)
  (fun g ps asg body _ _ st K => evRange E cl rn g ps asg body st K)
  (fun id st K => K (.exit id) st)
  (fun _ f st K => match rn with | none => f st K | some _ => False) (fun _ st K => K .normal st) (fun _ _ _ => False)
  (fun st K => K .ret st)
  (fun _ _ _ => False) c
/-! ### Functions -/
def evRes1 (E : Env) (st : St) : ResultVar → Option (List Duty × Tm)
 | .tmp t => some ([],st.tm.get t)
 | .cell a t => evLoad E st t (st.tm.get a)
def evResL (E : Env) (st : St) : List ResultVar → Option (List Duty × List C1)
 | [] => some ([],[])
 | r :: rs =>
   match evRes1 E st r,evResL E st rs with
   | some (q,t),some (q',l) => (match c1Of t with | some c => some (q ++ q',c :: l) | none => none)
   | _,_ => none
def evRes (E : Env) (st : St) (rs : List ResultVar) : Option (List Duty × Tm) :=
 match rs with
 | [r] => evRes1 E st r
 | rs => (match evResL E st rs with | some (q,l) => some (q,.tup l) | none => none)
def Tr.full : Nat → Tr
 | 0 => .nil
 | d + 1 => .node (.a .un) (Tr.full d) (Tr.full d)
def depthOf (n : Nat) : Nat:=Nat.log2 (n + 1) + 1
def putsK (l : List Tm) (i : Nat) (t : Tr) (k : Tr → Prop) : Prop :=
 List.rec (motive:=fun _ => Nat → Tr → (Tr → Prop) → Prop) (fun _ t k => k t) (fun x _ ih i t k => forceT x (fun x => t.putK i x (fun t => ih (i + 1) t k))) l i t k
def fullK (d : Nat) (k : Tr → Prop) : Prop :=
 Nat.rec (motive:=fun _ => (Tr → Prop) → Prop) (fun k => k .nil) (fun _ ih k => ih (fun t => k (.node (.a .un) t t))) d k
def frameK (n : Nat) (args : List Tm) (k : Sl → Prop) : Prop:=lenK args (fun m => match Nat.ble m n with | true => fullK (depthOf n) (fun t => putsK args 0 t (fun t => k ⟨n,t⟩)) | false => False)
def evBody (E : Env) (go : Code → St → (Ex → St → Prop) → Prop) : Cl:=fun b args st K =>
 match st with
 | ⟨tm,fr,rg⟩ => frameK b.n args (fun s => go b.code ⟨s,tm :: fr,rg⟩ (fun e st' => match e with
   | .exit _ => False
   | _ => (match evRes E st' b.rs with
     | some (q,x) => oblige E.conc q (match st' with | ⟨_,tm' :: fr',rg'⟩ => K x ⟨tm',fr',rg'⟩ | _ => False)
     | none => False)))
def parsK (ps : List Nat) : List Tm → Sl → (Sl → Prop) → Prop :=
 List.rec (motive:=fun _ => List Tm → Sl → (Sl → Prop) → Prop)
  (fun args s k => match args with | [] => k s | _ => False)
  (fun p _ ih args s k => match args,s with
    | x :: args,⟨n,t⟩ => (match Nat.blt p n with | true => forceT x (fun x => t.putK p x (fun t => ih args ⟨n,t⟩ k)) | false => False)
    | _,_ => False) ps
def roundEndK (e : Ex) (k : LoopState → Option Code → At → Prop) : Prop :=
 match e with
 | .normal => k .ready none .tt
 | .ret => k .done (some .ret) .ff
 | .exit id => k .done (some (.exit id)) .ff
def evRound (go : Option (Nat × Nat) → Code → St → (Ex → St → Prop) → Prop) : Rd:=fun r args st K =>
 match st with
 | ⟨tm,fr,rg⟩ => (match rg.getD r .dead with
   | .lp l s L .ready _ => parsK L.params.toList args s (fun s' => go (some (r,l)) L.assign ⟨s',tm :: fr,rg⟩ (fun e st1 => match e with
      | .normal => (match st1.rg.getD r .dead with
         | .lp l1 s1 L1 .ready j1 => l1 = l ∧ St.setRK st1 r (.lp l1 s1 L1 .busy j1) (fun st2 => go (some (r,l)) L.body st2 (fun e st3 => match st3 with
             | ⟨_,tm3 :: fr3,rg3⟩ => (match rg3.getD r .dead with
                | .lp l3 s3 L3 .busy _ => l3 = l ∧ roundEndK e (fun q j x => St.setRK ⟨tm3,fr3,rg3⟩ r (.lp l3 s3 L3 q j) (fun st => K (.a x) st))
                | _ => False)
             | _ => False))
         | _ => False)
      | _ => False))
   | _ => False)
def evN (E : Env) (n : Nat) : Option (Nat × Nat) → Code → St → (Ex → St → Prop) → Prop :=
 Nat.rec (motive:=fun _ => Option (Nat × Nat) → Code → St → (Ex → St → Prop) → Prop) (fun rn c => evC E (fun _ _ _ _ => False) (fun _ _ _ _ => False) rn c) (fun _ ih rn c => evC E (evBody E (ih none)) (evRound ih) rn c) n
def eqA : At → At → Prop
 | .tt,.tt => True
 | .ff,.ff => True
 | .tt,.v (.bool b) => b = true
 | .ff,.v (.bool b) => b = false
 | .v (.bool b),.tt => b = true
 | .v (.bool b),.ff => b = false
 | _,.any => True
 | .p r π i j,.p r' π' i' j' => r = r' ∧ π = π' ∧ i = i' ∧ j = j'
 | .sl r π lo n,.sl r' π' lo' n' => r = r' ∧ π = π' ∧ lo = lo' ∧ n = n'
 | .fn f l,.fn f' l' => f = f' ∧ l = l'
 | .mp r,.mp r' => r = r'
 | .it r,.it r' => r = r'
 | .yl r,.yl r' => r = r'
 | .un,.un => True
 | .z,.z => True
 | .err,.err => True
 | .v (.slice none 0 0),.z => True
 | .v (.int k a),.v (.int k' b) => k = k' ∧ a = b
 | .v (.bool a),.v (.bool b) => a = b
 | .v x,.v y => x = y
 | _,_ => False
def eqAs : List At → List At → Prop
 | [],[] => True
 | x :: xs,y :: ys => eqA x y ∧ eqAs xs ys
 | _,_ => False
def eqC : C1 → C1 → Prop
 | .a x,.a y => eqA x y
 | .agg l,.agg l' => eqAs l l'
 | _,_ => False
def eqCs : List C1 → List C1 → Prop
 | [],[] => True
 | x :: xs,y :: ys => eqC x y ∧ eqCs xs ys
 | _,_ => False
def eqT : Tm → Tm → Prop
 | .a x,.a y => eqA x y
 | .agg l,.agg l' => eqAs l l'
 | .tup l,.tup l' => eqCs l l'
 | _,_ => False
end Go.Sy
end
section
namespace Go.Sy
open Go Go.RowKit
universe u
structure RI where
 b : Nat
 off : Nat
 m : Nat
 cap : Nat
 void : Bool
def RI.at (I : RI) (o : Nat) : Addr:=⟨I.b,I.off + o,none⟩
abbrev Keys:=Nat → Path → RI
def RI.head (I : RI) (lo n : Nat) (y : Value) : Prop :=
 (I.void = true → n = 0 ∧ ∃ a,y = .slice a 0 0) ∧
 (I.void = false → lo + n ≤ I.cap ∧ ∃ a,y = .slice a n (I.cap - lo) ∧ (lo < I.cap → a = some (I.at (lo * I.m))))
def At.ok (N : Nat) (ρ : Keys) : At → Value → Prop
 | .any,_ => True
 | .un,y => y = undef
 | .v x,y => y = x ∧ x.oneCell' = true
 | .tt,y => y = .bool true
 | .ff,y => y = .bool false
 | .p r π i j,y => r < N ∧ y = .pointer (some ((ρ r π).at (i * (ρ r π).m + j)))
 | .sl r π lo n,y => r < N ∧ (ρ r π).head lo n y
 | .z,y => ∃ a,y = .slice a 0 0
 | .fn f caps,y => (∀ r ∈ caps,r < N) ∧ y = .func (.func f) #[] (caps.map fun r => Value.pointer (some ((ρ r []).at 0))).toArray
 | .mp r,y => r < N ∧ y = .map (some (ρ r []).b)
 | .it r,y => r < N ∧ y = .pointer (some ⟨(ρ r []).b,0,none⟩)
 | .yl r,y => r < N ∧ y = .func (.yield (ρ r []).b) #[] #[]
 | .err,y => ∃ t v,y = .iface t v
def okL {α β : Type} (R : α → β → Prop) : List α → List β → Prop
 | [],[] => True
 | x :: xs,y :: ys => R x y ∧ okL R xs ys
 | _,_ => False
def C1.ok (N : Nat) (ρ : Keys) : C1 → Value → Prop
 | .a x,y => x.ok N ρ y
 | .agg l,y => ∃ ys,y = .agg ys.toArray ∧ okL (At.ok N ρ) l ys
def Tm.ok (N : Nat) (ρ : Keys) : Tm → Value → Prop
 | .a x,y => x.ok N ρ y
 | .agg l,y => ∃ ys,y = .agg ys.toArray ∧ okL (At.ok N ρ) l ys
 | .tup l,y => ∃ ys,y = .tuple ys.toArray ∧ okL (C1.ok N ρ) l ys
structure Sl.ok (N : Nat) (ρ : Keys) (s : Sl) (vs : Array Value) : Prop where
 n : vs.size = s.n
 h : ∀ i,(s.t.get i).ok N ρ (vs.getD i undef)
/-! ### Contents -/
def Ar.has (A : Ar) : Path → Ar → Prop
 | [],B => B = A
 | (i,j) :: π,C => ∃ B,A.has π B ∧ i < B.xs.length ∧ Tup.sub B.tg (B.get i) j = some C
def CK.lies (η : Path → RI) (π : Path) (i j : Nat) : (c : CK) → c.ty → Value → Prop
 | .int k,n,y => y = .int k n
 | .bool,b,y => y = .bool b
 | .str,s,y => y = .string s
 | .sl _ _,(ys : List _),y => (η ((i,j) :: π)).head 0 ys.length y
def Tup.lies (η : Path → RI) (π : Path) (i : Nat) : Nat → (tg : List CK) → Tup tg → List Value → Prop
 | _,[],_,ys => ys = []
 | j,[c],x,ys => ∃ y,ys = [y] ∧ c.lies η π i j x y
 | j,c :: c' :: cs,x,ys => ∃ y ys',ys = y :: ys' ∧ c.lies η π i j x.1 y ∧ Tup.lies η π i (j + 1) (c' :: cs) x.2 ys'
structure Ar.lies (w : World) (η : Path → RI) (π : Path) (A : Ar) : Prop where
 tg : A.tg ≠ []
 m : (η π).m = A.tg.length
 void : (η π).void = true → A.xs = []
 len : (η π).void = false → A.xs.length ≤ (η π).cap
 cell : ∀ i,i < A.xs.length → ∃ ys,Tup.lies η π i 0 A.tg (A.get i) ys ∧ ∀ s y,ys[s]? = some y → w.cell? ((η π).at (i * (η π).m + s)) = some y
structure Mine (M : Nat → Prop) (w0 w : World) (I : RI) : Prop where
 own : M I.b ∨ w0.heap.size ≤ I.b
 fz : ∀ j,w.frozen? ⟨I.b,j,none⟩ = false
structure Whole (w : World) (I : RI) (te : TypeId) : Prop where
 cap : I.cap ≤ maxLen
 blk : ∃ cur : Array Value,w.heap[I.b]? = some (.cells cur te (0,0)) ∧ cur.size = I.off + I.cap * I.m
def CK.val : (c : CK) → c.ty → Value
 | .int k,n => .int k n
 | .bool,b => .bool b
 | .str,s => .string s
 | .sl _ _,_ => .slice none 0 0
def entsOf (k : IntKind) (c : CK) (es : List (Int × c.ty)) : List (Value × Value):=es.map fun p => (.int k p.1,c.val p.2)
def MapAt (w : World) (b : Nat) (k : IntKind) (c : CK) (es : List (Int × c.ty)) : Prop :=
 ∃ ents : Array MapEntry,w.heap[b]? = some (.map ents ents.size) ∧ ents.toList.map (fun e => (e.key,e.val)) = entsOf k c es ∧ ents.toList.map (·.born) = List.range ents.size
def Tup.vals : (tg : List CK) → Tup tg → List Value
 | [],_ => []
 | [c],x => [c.val x]
 | c :: c' :: cs,x => c.val x.1 :: Tup.vals (c' :: cs) x.2
def MapsAt (w : World) (b : Nat) (η : Path → RI) (kk tg : List CK) (es : List (Tup kk × List (Tup tg))) : Prop :=
 ∃ ents : Array MapEntry,w.heap[b]? = some (.map ents ents.size) ∧ ents.size = es.length ∧ ents.toList.map (·.born) = List.range ents.size ∧
  ∀ (j : Nat) (x : MapEntry),ents[j]? = some x → x.key = .agg (Tup.vals kk (es.getD j (Tup.d kk,[])).1).toArray ∧ (η [(j,0)]).head 0 (es.getD j (Tup.d kk,[])).2.length x.val
inductive Blk where
 | mps (kk : List CK) (tg : List CK) (es : List (Tup kk × List (Tup tg)))
 | box (cells : List At)
 | arr (A : Ar)
 | map (k : IntKind) (c : CK) (es : List (Int × c.ty))
 | it (m : Option Nat) (n : Nat) (seen : List Nat)
 | lp (b : Nat) (s : Sl) (L : Loop) (q : LoopState) (j : Option Code)
def flagAt (π : Path) (o i : Bool) : Bool:=match π with | [] => o | _ :: _ => i
def Reg.has (g : Reg) (π : Path) (o : Bool) (B : Blk) : Prop :=
 match g with
 | .box own cells => π = [] ∧ o = own ∧ B = .box cells
 | .arr te tg xs own inn => o = flagAt π own inn ∧ ∃ A,Ar.has ⟨te,tg,xs⟩ π A ∧ B = .arr A
 | .map _ k c es own => π = [] ∧ o = own ∧ B = .map k c es
 | .mps _ kk e tg es own inn => (π = [] ∧ o = own ∧ B = .mps kk tg es) ∨ (∃ j,π = [(j,0)] ∧ o = inn ∧ j < es.length ∧ flatK tg = true ∧ B = .arr ⟨e,tg,(es.getD j (Tup.d kk,[])).2⟩)
 | .iter m n l => π = [] ∧ o = true ∧ B = .it m n l
 | .lp b s L q j => π = [] ∧ o = true ∧ B = .lp b s L q j
 | .dead => False
def Blk.lies (N : Nat) (ρ : Keys) (r : Nat) (π : Path) (w : World) : Blk → Prop
 | .box cells => π = [] ∧ (ρ r []).off = 0 ∧ (ρ r []).void = false ∧ ∀ j x,cells[j]? = some x → ∃ y,x.ok N ρ y ∧ w.cell? ((ρ r []).at j) = some y
 | .arr A => A.lies w (ρ r) π
 | .map k c es => π = [] ∧ (ρ r []).void = false ∧ MapAt w (ρ r []).b k c es
 | .mps kk tg es => π = [] ∧ (ρ r []).void = false ∧ MapsAt w (ρ r []).b (ρ r) kk tg es
 | .it m n l => π = [] ∧ (ρ r []).void = false ∧ (∀ r',m = some r' → r' < N) ∧ w.heap[(ρ r []).b]? = some (.mapIter (m.map fun r' => (ρ r' []).b) n l.reverse.toArray n)
 | .lp b s L q j => π = [] ∧ (ρ r []).void = false ∧ s.ok N ρ L.tmps ∧ w.heap[(ρ r []).b]? = some (.loop { L with state:=q,pending:=j }) ∧ (ρ r []).b = b
def Blk.mine (M : Nat → Prop) (w0 w : World) (I : RI) : Blk → Prop
 | .box _ => Mine M w0 w I
 | .map _ _ _ => Mine M w0 w I
 | .mps _ _ _ => Mine M w0 w I
 | .it _ _ _ => Mine M w0 w I
 | .lp _ _ _ _ _ => Mine M w0 w I
 | .arr A => Mine M w0 w I ∧ Whole w I A.te
structure Frame (M : Nat → Prop) (w w' : World) : Prop where
 os : w'.os = w.os
 tape : w'.tape = w.tape
 output : w'.output = w.output
 size : w.heap.size ≤ w'.heap.size
 block : ∀ k,k < w.heap.size → ¬ M k → w'.heap[k]? = w.heap[k]?
structure Glob where
 n : Nat
 G : World → Prop
 st : ∀ w w',G w → (∀ b,b < n → w'.heap[b]? = w.heap[b]?) → G w'
structure Regs (M : Nat → Prop) (w0 : World) (N : Nat) (ρ : Keys) (rg : List Reg) (w : World) : Prop where
 blk : ∀ (r : Nat) (g : Reg) π o B,rg[r]? = some g → g.has π o B → B.lies N ρ r π w
 lt : ∀ (r : Nat) (g : Reg) π o B,rg[r]? = some g → g.has π o B → (ρ r π).void = false → (ρ r π).b < w.heap.size
 own : ∀ (r : Nat) (g : Reg) π B,rg[r]? = some g → g.has π true B → (ρ r π).void = false → B.mine M w0 w (ρ r π)
 dj : ∀ (r r' : Nat) (g g' : Reg) π π' o' B B',rg[r]? = some g → rg[r']? = some g' → g.has π true B → g'.has π' o' B' → (ρ r π).void = false → (ρ r' π').void = false →
  ¬ (r = r' ∧ π = π') → (ρ r π).b ≠ (ρ r' π').b
structure Fv where
 fs : List (Array Value)
 ds : List Deferred
structure Rel (Γ : Glob) (M : Nat → Prop) (w0 : World) (ρ : Keys) (st : St) (vs : Fv) (a : Act) (w : World) : Prop where
 tm : st.tm.ok st.rg.length ρ a.tmps
 fr : okL (Sl.ok st.rg.length ρ) st.fr vs.fs
 df : a.defers = vs.ds
 rs : Regs M w0 st.rg.length ρ st.rg w
 bl : Frame M w0 w
 gl : Γ.G w
 gn : ∀ b,b < Γ.n → ¬ M b ∧ b < w0.heap.size
/-! ### Lists in step -/
section
variable {α β : Type} {R R' : α → β → Prop}
theorem okL.length : ∀ {xs : List α} {ys : List β},okL R xs ys → xs.length = ys.length
 | [],[],_ => rfl
 | _ :: _,_ :: _,h => by simp [okL.length h.2]
theorem okL.mono (hm : ∀ x y,R x y → R' x y) : ∀ {xs : List α} {ys : List β},okL R xs ys → okL R' xs ys
 | [],[],_ => trivial
 | _ :: _,_ :: _,h => ⟨hm _ _ h.1,okL.mono hm h.2⟩
theorem okL.get : ∀ {xs : List α} {ys : List β},okL R xs ys → ∀ (i : Nat) x,xs[i]? = some x → ∃ y,ys[i]? = some y ∧ R x y
 | [],[],_,i,x,h => by simp at h
 | x0 :: xs,y0 :: ys,h,0,x,hx => by simp at hx;subst hx;exact ⟨y0,by simp,h.1⟩
 | x0 :: xs,y0 :: ys,h,i + 1,x,hx => by
   obtain ⟨y,hy,hr⟩:=okL.get h.2 i x (by simpa using hx)
   exact ⟨y,by simpa using hy,hr⟩
theorem okL.set : ∀ {xs : List α} {ys : List β},okL R xs ys → ∀ i x y,R x y → okL R (xs.set i x) (ys.set i y)
 | [],[],_,_,_,_,_ => trivial
 | _ :: _,_ :: _,h,0,_,_,hr => ⟨hr,h.2⟩
 | _ :: _,_ :: _,h,i + 1,x,y,hr => ⟨h.1,okL.set h.2 i x y hr⟩
theorem okL.append : ∀ {xs xs' : List α} {ys ys' : List β},okL R xs ys → okL R xs' ys' → okL R (xs ++ xs') (ys ++ ys')
 | [],_,[],_,_,h' => h'
 | _ :: _,_,_ :: _,_,h,h' => ⟨h.1,okL.append h.2 h'⟩
theorem okL.take : ∀ {xs : List α} {ys : List β},okL R xs ys → ∀ n,okL R (xs.take n) (ys.take n)
 | [],[],_,n => by cases n <;> exact trivial
 | _ :: _,_ :: _,_,0 => trivial
 | _ :: _,_ :: _,h,n + 1 => ⟨h.1,okL.take h.2 n⟩
theorem okL.drop : ∀ {xs : List α} {ys : List β},okL R xs ys → ∀ n,okL R (xs.drop n) (ys.drop n)
 | [],[],_,n => by cases n <;> exact trivial
 | _ :: _,_ :: _,h,0 => h
 | _ :: _,_ :: _,h,n + 1 => okL.drop h.2 n
theorem okL.mk : ∀ {xs : List α},(∀ (i : Nat) x,xs[i]? = some x → ∃ y,R x y) → ∃ ys,okL R xs ys
 | [],_ => ⟨[],trivial⟩
 | x :: xs,h => by
   obtain ⟨y,hy⟩:=h 0 x (by simp)
   obtain ⟨ys,hys⟩:=okL.mk (xs:=xs) (fun i x hx => h (i + 1) x (by simpa using hx))
   exact ⟨y :: ys,hy,hys⟩
end
/-! ### The forcing words are what they wrap -/
theorem setK_eq {α : Type u} : ∀ (l : List α) (i : Nat) (x : α) (k : List α → Prop),setK l i x k = k (l.set i x)
 | [],_,_,_ => rfl
 | _ :: _,0,_,_ => rfl
 | a :: l,i + 1,x,k => setK_eq l i x fun l => k (a :: l)
theorem appK_eq {α : Type u} : ∀ (l m : List α) (k : List α → Prop),appK l m k = k (l ++ m)
 | [],_,_ => rfl
 | a :: l,m,k => appK_eq l m fun l => k (a :: l)
theorem lenK_eq {α : Type u} (l : List α) (k : Nat → Prop) : lenK l k = k l.length:=by
 have gen : ∀ (l : List α) (n : Nat),(List.rec (motive:=fun _ => Nat → (Nat → Prop) → Prop) (fun n k => k n) (fun _ _ ih n k => ih (Nat.succ n) k) l n k : Prop) = k (n + l.length):=by
  intro l
  induction l with
  | nil => intro n;rfl
  | cons x l ih => intro n;show List.rec (motive:=fun _ => Nat → (Nat → Prop) → Prop) _ _ l (n + 1) k = _;rw [ih];congr 1;simp only [List.length_cons];omega
 have:=gen l 0
 rw [Nat.zero_add] at this
 exact this
theorem lenC_eq {α : Type u} (c : Bool) (l : List α) (k : Nat → Prop) : lenC c l k = k l.length:=by
 cases c with
 | true => unfold lenC;dsimp only;cases l.length <;> rfl
 | false => exact lenK_eq l k
theorem eachK_map {α β : Type u} {f : α → (β → Prop) → Prop} {g : α → β} (h : ∀ x k,f x k = k (g x)) : ∀ (l : List α) (k : List β → Prop),eachK f l k = k (l.map g)
 | [],_ => rfl
 | x :: l,k => by
   show f x (fun y => eachK f l (fun l => k (y :: l))) = _
   rw [h];exact eachK_map h l fun l => k (g x :: l)
theorem eachK_id {α : Type u} {f : α → (α → Prop) → Prop} (h : ∀ x k,f x k = k x) (l : List α) (k : List α → Prop) : eachK f l k = k l:=by
 rw [eachK_map (g:=id) h,List.map_id]
theorem forceV_eq (x : Value) (k : Value → Prop) : forceV x k = k x:=by cases x <;> rfl
theorem forceA_eq (x : At) (k : At → Prop) : forceA x k = k x:=by cases x <;> first | rfl | simp [forceA,forceV_eq]
theorem forceAs_eq (l : List At) (k : List At → Prop) : forceAs l k = k l:=eachK_id forceA_eq l k
theorem forceC_eq (x : C1) (k : C1 → Prop) : forceC x k = k x:=by cases x <;> simp [forceC,forceA_eq,forceAs_eq]
theorem forceT_eq (x : Tm) (k : Tm → Prop) : forceT x k = k x:=by cases x <;> simp [forceT,forceA_eq,forceAs_eq,eachK_id forceC_eq]
theorem forceR_eq (x : Reg) (k : Reg → Prop) : forceR x k = k x:=by cases x <;> simp [forceR,forceAs_eq]
theorem natK_eq (m : Nat) (k : Nat → Prop) : natK m k = k m:=by cases m <;> rfl
theorem cntC_eq (c : Bool) (n : Nat) (k : Nat → Prop) : cntC c n k = k n:=by cases c;rfl;exact natK_eq n k
theorem intK_eq (n : Int) (k : Int → Prop) : intK n k = k n:=by
 cases n with
 | ofNat m => exact natK_eq m (fun m => k (.ofNat m))
 | negSucc m => exact natK_eq m (fun m => k (.negSucc m))
theorem boolK_eq (b : Bool) (k : Bool → Prop) : boolK b k = k b:=by cases b <;> rfl
theorem byteOf_eq (s : ByteArray) : byteOf (s.data.toList.map UInt8.toNat) = s:=by
 have : (s.data.toList.map UInt8.toNat).map UInt8.ofNat = s.data.toList:=by
  rw [List.map_map]
  conv => rhs;rw [← List.map_id s.data.toList]
  exact List.map_congr_left fun x _ => by simp
 unfold byteOf
 rw [this]
theorem bytesK_eq (s : ByteArray) (k : ByteArray → Prop) : bytesK s k = k s:=by
 unfold bytesK
 rw [eachK_map (g:=id) (fun x k => natK_eq x k),List.map_id,byteOf_eq]
theorem nameV_eq (c : Bool) (x : Value) (k : Value → Prop) : nameV c x k = k x:=by
 cases c <;> cases x <;> simp [nameV,intK_eq,boolK_eq,bytesK_eq]
theorem nameA_eq (c : Bool) (x : At) (k : At → Prop) : nameA c x k = k x:=by cases c <;> cases x <;> simp [nameA,nameV_eq,natK_eq]
theorem nameC_eq (c : Bool) (x : C1) (k : C1 → Prop) : nameC c x k = k x:=by cases x <;> simp [nameC,nameA_eq,eachK_id (nameA_eq c)]
theorem nameT_eq (c : Bool) (x : Tm) (k : Tm → Prop) : nameT c x k = k x:=by cases x <;> simp [nameT,nameA_eq,eachK_id (nameA_eq c),eachK_id (nameC_eq c)]
mutual
theorem ckK_eq : ∀ (c : CK) (x : c.ty) (k : c.ty → Prop),ckK c x k = k x
 | .int _,x,k => by unfold ckK;exact intK_eq x k
 | .bool,x,k => by unfold ckK;exact boolK_eq x k
 | .str,x,k => by unfold ckK;exact bytesK_eq x k
 | .sl _ tg,x,k => by unfold ckK;exact eachK_id (tupK_eq tg) x k
theorem tupK_eq : ∀ (tg : List CK) (x : Tup tg) (k : Tup tg → Prop),tupK tg x k = k x
 | [],x,k => by unfold tupK;rfl
 | [c],x,k => by unfold tupK;exact ckK_eq c x k
 | c :: c' :: cs,x,k => by
   unfold tupK
   rw [ckK_eq c x.1,tupK_eq (c' :: cs) x.2]
   rfl
end
theorem entK_eq (c : CK) (p : Int × c.ty) (k : Int × c.ty → Prop) : entK c p k = k p:=by unfold entK;rw [intK_eq,ckK_eq]
theorem nameR_eq (c : Bool) (x : Reg) (k : Reg → Prop) : nameR c x k = k x:=by
 cases c <;> cases x <;> simp [nameR,boolK_eq,eachK_id (tupK_eq _),eachK_id (entK_eq _)]
theorem Tr.putK_eq : ∀ (t : Tr) (i : Nat) (x : Tm) (k : Tr → Prop),t.putK i x k = k (t.put i x)
 | .nil,_,_,_ => rfl
 | .node y l r,i,x,k => by
   have e1:=Tr.putK_eq l
   have e2:=Tr.putK_eq r
   unfold Tr.putK at e1 e2
   unfold Tr.putK
   dsimp only
   conv => rhs;rw [Tr.put]
   split
   ·rfl
   ·split
    ·rw [e1]
    ·rw [e2]
theorem Tr.get_put_ne : ∀ (t : Tr) (i : Nat) (x : Tm) (j : Nat),j ≠ i → (t.put i x).get j = t.get j
 | .nil,_,_,_,_ => rfl
 | .node y l r,i,x,j,hne => by
   unfold Tr.put
   split
   ·rename_i hi
    have hi:=Nat.eq_of_beq_eq_true hi
    unfold Tr.get
    split
    ·rename_i hj;exact absurd ((Nat.eq_of_beq_eq_true hj).trans hi.symm) hne
    ·rfl
   ·rename_i hi
    have hi : i ≠ 0:=fun h => by subst h;simp at hi
    split
    ·rename_i ho
     have ho:=Nat.eq_of_beq_eq_true ho
     unfold Tr.get
     split
     ·rfl
     ·rename_i hj
      have hj : j ≠ 0:=fun h => by subst h;simp at hj
      split
      ·rename_i hjo
       have hjo:=Nat.eq_of_beq_eq_true hjo
       exact Tr.get_put_ne l (i / 2) x (j / 2) (by omega)
      ·rfl
    ·rename_i ho
     have ho : i % 2 ≠ 1:=fun h => by rw [h] at ho;simp at ho
     unfold Tr.get
     split
     ·rfl
     ·rename_i hj
      have hj : j ≠ 0:=fun h => by subst h;simp at hj
      split
      ·rfl
      ·rename_i hjo
       have hjo : j % 2 ≠ 1:=fun h => by rw [h] at hjo;simp at hjo
       exact Tr.get_put_ne r (i / 2 - 1) x (j / 2 - 1) (by omega)
theorem Tr.get_put_eq : ∀ (t : Tr) (i : Nat) (x : Tm),(t.put i x).get i = x ∨ (t.put i x).get i = .a .any
 | .nil,_,_ => .inr rfl
 | .node y l r,i,x => by
   unfold Tr.put
   split
   ·rename_i hi
    left;unfold Tr.get;rw [hi]
   ·rename_i hi
    split
    ·rename_i ho
     unfold Tr.get
     rw [hi,ho]
     exact Tr.get_put_eq l (i / 2) x
    ·rename_i ho
     unfold Tr.get
     rw [hi,ho]
     exact Tr.get_put_eq r (i / 2 - 1) x
theorem Tr.mapK_eq (f : Tm → Tm) : ∀ (t : Tr) (k : Tr → Prop),t.mapK f k = k (t.map f)
 | .nil,_ => rfl
 | .node x l r,k => by
   have e1:=Tr.mapK_eq f l
   have e2:=Tr.mapK_eq f r
   unfold Tr.mapK at e1 e2
   unfold Tr.mapK
   dsimp only
   rw [forceT_eq,e1,e2]
   rfl
theorem Tr.get_map {f : Tm → Tm} (hf : f (.a .any) = .a .any) : ∀ (t : Tr) (i : Nat),(t.map f).get i = f (t.get i)
 | .nil,_ => hf.symm
 | .node x l r,i => by
   unfold Tr.map Tr.get
   split
   ·rfl
   ·split
    ·exact Tr.get_map hf l _
    ·exact Tr.get_map hf r _
def St.map (f : At → At) (st : St) : St:=⟨st.tm.map f,st.fr.map (Sl.map f),st.rg.map (Reg.mapA f)⟩
theorem Sl.mapK_eq (f : At → At) (s : Sl) (k : Sl → Prop) : s.mapK f k = k (s.map f):=by
 cases s;simp only [Sl.mapK,Tr.mapK_eq];rfl
theorem St.mapK_eq (f : At → At) (st : St) (k : St → Prop) : st.mapK f k = k (st.map f):=by
 cases st
 simp only [St.mapK,Sl.mapK_eq,eachK_map (Sl.mapK_eq f)]
 rw [eachK_map (g:=Reg.mapA f) (fun g k => forceR_eq _ _)]
 rfl
def St.push (st : St) (gs : List Reg) : St:=⟨st.tm,st.fr,st.rg ++ gs⟩
def St.setR (st : St) (r : Nat) (g : Reg) : St:=⟨st.tm,st.fr,st.rg.set r g⟩
theorem St.pushK_eq (st : St) (gs : List Reg) (k : St → Prop) : st.pushK gs k = k (st.push gs):=by
 cases st;simp [St.pushK,St.push,eachK_id forceR_eq,appK_eq]
theorem St.setRK_eq (st : St) (r : Nat) (g : Reg) (k : St → Prop) : st.setRK r g k = k (st.setR r g):=by
 cases st;simp [St.setRK,St.setR,forceR_eq,setK_eq]
theorem St.setNK_eq (c : Bool) (st : St) (r : Nat) (g : Reg) (k : St → Prop) : St.setNK c st r g k = k (st.setR r g):=by
 simp only [St.setNK,nameR_eq,St.setRK_eq]
def St.fits (st : St) : Option Nat → Prop
 | some d => d < st.tm.n
 | none => True
theorem St.putK_iff (st : St) (d : Option Nat) (x : Tm) (k : St → Prop) : st.putK d x k ↔ st.fits d ∧ k (st.put d x):=by
 obtain ⟨⟨n,t⟩,fr,rg⟩:=st
 cases d with
 | none => simp [St.putK,St.put,St.fits]
 | some d =>
   simp only [St.putK,St.put,St.fits,Sl.put,forceT_eq,Tr.putK_eq]
   cases h : Nat.blt d n with
   | true =>
     have hd : d < n:=Nat.le_of_ble_eq_true h
     exact ⟨fun hk => ⟨hd,hk⟩,fun hk => hk.2⟩
   | false =>
     have hd : ¬ d < n:=fun hh => by rw [show Nat.blt d n = true from Nat.ble_eq_true_of_le hh] at h;cases h
     exact ⟨fun hk => hk.elim,fun hk => absurd hk.1 hd⟩
theorem St.putN_iff (E : Env) (st : St) (o : Oper) (x : Tm) (k : St → Prop) : st.putN E o x k ↔ st.fits o.dst ∧ k (st.put o.dst x):=by
 unfold St.putN
 split
 ·rw [nameT_eq,St.putK_iff]
 ·split <;> simp [nameT_eq,St.putK_iff]
theorem appPut_iff (c : Bool) (st : St) (d : Option Nat) (r n : Nat) (k : St → Prop) : appPut c st d r n k ↔ st.fits d ∧ k (st.put d (.a (.sl r [] 0 n))):=by
 unfold appPut
 split
 ·rw [natK_eq,St.putK_iff]
 ·rw [St.putK_iff]
theorem testK_fact {c b : Bool} {p q : Prop} (hb : b = true → p) (h : testK c b p q) : p ∧ q:=by
 unfold testK at h
 cases c with
 | false => exact h
 | true =>
   cases b with
   | true => exact ⟨hb rfl,h⟩
   | false => exact h.elim
end Go.Sy
end
section
namespace Go.Sy
open Go Go.RowKit
universe u
/-! ### Growing -/
theorem At.ok.mono {N N' : Nat} {ρ ρ' : Keys} (hN : N ≤ N') (hρ : ∀ r,r < N → ∀ π,ρ' r π = ρ r π) {x : At} {y : Value} (h : x.ok N ρ y) : x.ok N' ρ' y:=by
 cases x <;> try exact h
 case p r π i j =>
  obtain ⟨h1,h2⟩:=h
  exact ⟨by omega,by rw [hρ r h1];exact h2⟩
 case sl r π lo n =>
  obtain ⟨h1,h2⟩:=h
  exact ⟨by omega,by rw [hρ r h1];exact h2⟩
 case fn f caps =>
  obtain ⟨h1,h2⟩:=h
  refine ⟨fun r hr => by have:=h1 r hr;omega,?_⟩
  rw [h2]
  congr 2
  exact List.map_congr_left fun r hr => by rw [hρ r (h1 r hr)]
 case mp r =>
  obtain ⟨h1,h2⟩:=h
  exact ⟨by omega,by rw [hρ r h1];exact h2⟩
 case it r =>
  obtain ⟨h1,h2⟩:=h
  exact ⟨by omega,by rw [hρ r h1];exact h2⟩
 case yl r =>
  obtain ⟨h1,h2⟩:=h
  exact ⟨by omega,by rw [hρ r h1];exact h2⟩
theorem okAt_mono {N N' : Nat} {ρ ρ' : Keys} (hN : N ≤ N') (hρ : ∀ r,r < N → ∀ π,ρ' r π = ρ r π) {l : List At} {ys : List Value} (h : okL (At.ok N ρ) l ys) : okL (At.ok N' ρ') l ys :=
 h.mono fun _ _ h => h.mono hN hρ
theorem C1.ok.mono {N N' : Nat} {ρ ρ' : Keys} (hN : N ≤ N') (hρ : ∀ r,r < N → ∀ π,ρ' r π = ρ r π) {x : C1} {y : Value} (h : x.ok N ρ y) : x.ok N' ρ' y:=by
 cases x with
 | a x => exact At.ok.mono hN hρ h
 | agg l => obtain ⟨ys,h1,h2⟩:=h;exact ⟨ys,h1,okAt_mono hN hρ h2⟩
theorem Tm.ok.mono {N N' : Nat} {ρ ρ' : Keys} (hN : N ≤ N') (hρ : ∀ r,r < N → ∀ π,ρ' r π = ρ r π) {x : Tm} {y : Value} (h : x.ok N ρ y) : x.ok N' ρ' y:=by
 cases x with
 | a x => exact At.ok.mono hN hρ h
 | agg l => obtain ⟨ys,h1,h2⟩:=h;exact ⟨ys,h1,okAt_mono hN hρ h2⟩
 | tup l => obtain ⟨ys,h1,h2⟩:=h;exact ⟨ys,h1,h2.mono fun _ _ h => h.mono hN hρ⟩
theorem Sl.ok.mono {N N' : Nat} {ρ ρ' : Keys} (hN : N ≤ N') (hρ : ∀ r,r < N → ∀ π,ρ' r π = ρ r π) {s : Sl} {vs : Array Value} (h : s.ok N ρ vs) : s.ok N' ρ' vs :=
 ⟨h.n,fun i => (h.h i).mono hN hρ⟩
theorem CK.lies.congr {η η' : Path → RI} {π : Path} {i j : Nat} (he : ∀ ij,η' (ij :: π) = η (ij :: π)) : ∀ {c : CK} {x : c.ty} {y : Value},c.lies η π i j x y → c.lies η' π i j x y
 | .int _,_,_,h => h
 | .bool,_,_,h => h
 | .str,_,_,h => h
 | .sl _ _,_,_,h => by
   show RI.head (η' ((i,j) :: π)) 0 _ _
   rw [he];exact h
theorem Tup.lies.congr {η η' : Path → RI} {π : Path} {i : Nat} (he : ∀ ij,η' (ij :: π) = η (ij :: π)) : ∀ {tg : List CK} {j : Nat} {x : Tup tg} {ys : List Value},Tup.lies η π i j tg x ys → Tup.lies η' π i j tg x ys
 | [],_,_,_,h => h
 | [c],_,_,_,h => by obtain ⟨y,h1,h2⟩:=h;exact ⟨y,h1,h2.congr he⟩
 | c :: c' :: cs,_,_,_,h => by obtain ⟨y,ys',h1,h2,h3⟩:=h;exact ⟨y,ys',h1,h2.congr he,h3.congr (tg:=c' :: cs) he⟩
theorem Ar.lies.later {w w' : World} {η η' : Path → RI} {π : Path} {A : Ar} (he : ∀ σ,η' σ = η σ) (hb : (η π).void = false → w'.heap[(η π).b]? = w.heap[(η π).b]?) (h : A.lies w η π) : A.lies w' η' π where
 tg:=h.tg
 m:=by rw [he];exact h.m
 void:=by rw [he];exact h.void
 len:=by rw [he];exact h.len
 cell:=fun i hi => by
  obtain ⟨ys,h1,h2⟩:=h.cell i hi
  refine ⟨ys,h1.congr fun ij => he _,fun s y hy => ?_⟩
  rw [he]
  have hv : (η π).void = false:=by
   cases hh : (η π).void with
   | false => rfl
   | true => rw [h.void hh] at hi;simp at hi
  rw [show w'.cell? ((η π).at (i * (η π).m + s)) = w.cell? ((η π).at (i * (η π).m + s)) from World.cell?_of_block (w:=w) (hb hv)]
  exact h2 s y hy
theorem Blk.lies.later {N N' : Nat} {ρ ρ' : Keys} {r : Nat} {π : Path} {w w' : World} {B : Blk} (he : ∀ π,ρ' r π = ρ r π) (hN : N ≤ N') (hρ : ∀ r,r < N → ∀ π,ρ' r π = ρ r π)
  (hb : (ρ r π).void = false → w'.heap[(ρ r π).b]? = w.heap[(ρ r π).b]?) (h : B.lies N ρ r π w) : B.lies N' ρ' r π w':=by
 cases B with
 | box cells =>
   obtain ⟨rfl,h1,h2,h3⟩:=h
   refine ⟨rfl,by rw [he];exact h1,by rw [he];exact h2,fun j x hx => ?_⟩
   obtain ⟨y,hy,hc⟩:=h3 j x hx
   refine ⟨y,hy.mono hN hρ,?_⟩
   rw [he]
   rw [show w'.cell? ((ρ r []).at j) = w.cell? ((ρ r []).at j) from World.cell?_of_block (w:=w) (hb h2)]
   exact hc
 | arr A => exact Ar.lies.later he hb h
 | map k c es =>
   obtain ⟨rfl,h1,ents,h2,h3,h4⟩:=h
   exact ⟨rfl,by rw [he];exact h1,ents,by rw [he,hb h1];exact h2,h3,h4⟩
 | mps kk tg es =>
   obtain ⟨rfl,h1,ents,h2,h3,h4,h5⟩:=h
   exact ⟨rfl,by rw [he];exact h1,ents,by rw [he,hb h1];exact h2,h3,h4,fun j x hx => by rw [he];exact h5 j x hx⟩
 | it m n l =>
   obtain ⟨rfl,h1,h2,h3⟩:=h
   refine ⟨rfl,by rw [he];exact h1,fun r' hr' => Nat.lt_of_lt_of_le (h2 r' hr') hN,?_⟩
   rw [he,hb h1,h3]
   cases m with
   | none => rfl
   | some r' => simp only [Option.map_some];rw [hρ r' (h2 r' rfl)]
 | lp b s L q j =>
   obtain ⟨rfl,h1,h2,h3,h4⟩:=h
   exact ⟨rfl,by rw [he];exact h1,h2.mono hN hρ,by rw [he,hb h1];exact h3,by rw [he];exact h4⟩
theorem Mine.later {M : Nat → Prop} {w0 w w' : World} {I : RI} (hb : w'.heap[I.b]? = w.heap[I.b]?) (h : Mine M w0 w I) : Mine M w0 w' I :=
 ⟨h.own,fun j => by rw [World.frozen?_of_block (w:=w) (a:=⟨I.b,j,none⟩) hb];exact h.fz j⟩
theorem Whole.later {w w' : World} {I : RI} {te : TypeId} (hb : w'.heap[I.b]? = w.heap[I.b]?) (h : Whole w I te) : Whole w' I te :=
 ⟨h.cap,by obtain ⟨cur,h1,h2⟩:=h.blk;exact ⟨cur,by rw [hb];exact h1,h2⟩⟩
theorem Blk.mine.later {M : Nat → Prop} {w0 w w' : World} {I : RI} {B : Blk} (hb : w'.heap[I.b]? = w.heap[I.b]?) (h : B.mine M w0 w I) : B.mine M w0 w' I:=by
 cases B with
 | box cells => exact Mine.later hb h
 | arr A => exact ⟨Mine.later hb h.1,Whole.later hb h.2⟩
 | map k c es => exact Mine.later hb h
 | mps kk tg es => exact Mine.later hb h
 | it => exact Mine.later hb h
 | lp => exact Mine.later hb h
theorem Regs.later {M : Nat → Prop} {w0 w w' : World} {N : Nat} {ρ : Keys} {rg : List Reg} (hs : w.heap.size ≤ w'.heap.size) (hb : ∀ b,b < w.heap.size → w'.heap[b]? = w.heap[b]?) (h : Regs M w0 N ρ rg w) : Regs M w0 N ρ rg w' where
 blk:=fun r g π o B h1 h2 => (h.blk r g π o B h1 h2).later (fun _ => rfl) (Nat.le_refl _) (fun _ _ _ => rfl) (fun hv => hb _ (h.lt r g π o B h1 h2 hv))
 lt:=fun r g π o B h1 h2 hv => Nat.lt_of_lt_of_le (h.lt r g π o B h1 h2 hv) hs
 own:=fun r g π B h1 h2 hv => (h.own r g π B h1 h2 hv).later (hb _ (h.lt r g π true B h1 h2 hv))
 dj:=h.dj
theorem Frame.refl (M : Nat → Prop) (w : World) : Frame M w w:=⟨rfl,rfl,rfl,Nat.le_refl _,fun _ _ _ => rfl⟩
theorem Frame.below {M : Nat → Prop} {w0 w w' : World} (h : Frame M w0 w) (hb : Below w.heap.size w w') : Frame M w0 w' :=
 ⟨hb.os.trans h.os,hb.tape.trans h.tape,hb.output.trans h.output,Nat.le_trans h.size hb.size,fun k hk hm => (hb.block k (Nat.lt_of_lt_of_le hk h.size)).trans (h.block k hk hm)⟩
section
variable {P : Program} {Γ : Glob} {E : Env} {M : Nat → Prop} {w0 : World} {ρ : Keys} {st : St} {vs : Fv} {a : Act} {w : World}
theorem Rel.later (h : Rel Γ M w0 ρ st vs a w) {w' : World} (hb : Below w.heap.size w w') : Rel Γ M w0 ρ st vs a w' where
 tm:=h.tm
 fr:=h.fr
 df:=h.df
 rs:=h.rs.later hb.size hb.block
 bl:=h.bl.below hb
 gl:=Γ.st _ _ h.gl fun b hlt => hb.block b (Nat.lt_of_lt_of_le (h.gn b hlt).2 h.bl.size)
 gn:=h.gn
theorem Sl.ok.put {N : Nat} {s : Sl} {xs : Array Value} (h : s.ok N ρ xs) (d : Nat) {x : Tm} {y : Value} (hx : x.ok N ρ y) : (s.put d x).ok N ρ (xs.setIfInBounds d y):=by
 unfold Sl.put
 split
 ·rename_i hd
  have hd : d < s.n:=Nat.le_of_ble_eq_true hd
  refine ⟨by simpa using h.n,fun i => ?_⟩
  show ((s.t.put d x).get i).ok N ρ _
  by_cases hi : i = d
  ·subst hi
   rcases Tr.get_put_eq s.t i x with hg | hg
   ·rw [hg]
    have : (xs.setIfInBounds i y).getD i undef = y:=by
     simp [Array.getD,h.n,hd]
    rw [this];exact hx
   ·rw [hg];trivial
  ·rw [Tr.get_put_ne _ _ _ _ hi]
   have : (xs.setIfInBounds d y).getD i undef = xs.getD i undef:=by
    simp only [Array.getD_eq_getD_getElem?,Array.getElem?_setIfInBounds,if_neg (Ne.symm hi)]
   rw [this];exact h.h i
 ·rename_i hd
  have hd : ¬ d < s.n:=fun hh => by rw [show Nat.blt d s.n = true from Nat.ble_eq_true_of_le hh] at hd;cases hd
  have : xs.setIfInBounds d y = xs:=Array.setIfInBounds_eq_of_size_le (by rw [h.n];exact Nat.le_of_not_lt hd)
  rw [this];exact h
end
end Go.Sy
end
section
namespace Go.Sy
open Go Go.MapKept
def mfind {α : Type} : List (Int × α) → Int → Option (Nat × α)
 | [],_ => none
 | (k,v) :: es,n => match k == n with
   | true => some (0,v)
   | false => (match mfind es n with | some (j,v) => some (j + 1,v) | none => none)
theorem mget_find {α : Type} (d : α) : ∀ (es : List (Int × α)) (n : Int),mget es n d = (match mfind es n with | some (_,v) => v | none => d)
 | [],_ => rfl
 | (k,v) :: es,n => by
   unfold mget mfind
   cases k == n with
   | true => rfl
   | false =>
     simp only
     rw [mget_find d es n]
     cases mfind es n <;> rfl
theorem mhas_find {α : Type} : ∀ (es : List (Int × α)) (n : Int),mhas es n = (mfind es n).isSome
 | [],_ => rfl
 | (k,v) :: es,n => by
   unfold mhas mfind
   cases k == n with
   | true => rfl
   | false =>
     simp only
     rw [mhas_find es n]
     cases mfind es n <;> rfl
theorem findNow_spec (k : IntKind) (c : CK) (n : Int) : ∀ (es : List (Int × c.ty)) (ents : List MapEntry) (i : Nat),ents.map (fun e => (e.key,e.val)) = entsOf k c es →
  Instr.findNow (.int k) (.int k n) ents i = some (match mfind es n with | some (j,v) => some (i + j,c.val v) | none => none)
 | [],ents,i,h => by
   cases ents with
   | nil => rfl
   | cons => simp [entsOf] at h
 | (m,v) :: es,ents,i,h => by
   cases ents with
   | nil => simp [entsOf] at h
   | cons e ents =>
     simp only [entsOf,List.map_cons,List.cons.injEq,Prod.mk.injEq] at h
     obtain ⟨⟨h1,h2⟩,h3⟩:=h
     have ih:=findNow_spec k c n es ents (i + 1) h3
     unfold Instr.findNow mfind
     rw [h1,h2,ih]
     have e1 : Instr.sameNow (.int k) (.int k n) (.int k m) = some (n == m):=by
      show (if k = k then some (n == m) else none) = _
      rw [if_pos rfl]
     rw [e1]
     have e2 : (m == n) = (n == m):=by rw [Bool.eq_iff_iff,beq_iff_eq,beq_iff_eq];exact ⟨Eq.symm,Eq.symm⟩
     rw [e2]
     cases n == m with
     | true => rfl
     | false =>
       simp only
       cases mfind es n with
       | none => rfl
       | some jv => simp;omega
theorem mfind_get {α : Type} : ∀ {es : List (Int × α)} {n : Int} {j : Nat} {v : α},mfind es n = some (j,v) → es[j]? = some (n,v)
 | (k,w) :: es,n,j,v,h => by
   unfold mfind at h
   split at h
   ·rename_i hk
    obtain ⟨rfl,rfl⟩:=Prod.mk.inj (Option.some.inj h)
    simp at hk;simp [hk]
   ·split at h
    ·rename_i j' v' hh
     obtain ⟨rfl,rfl⟩:=Prod.mk.inj (Option.some.inj h)
     simpa using mfind_get hh
    ·cases h
theorem mset_none {α : Type} : ∀ {es : List (Int × α)} {n : Int} (v : α),mfind es n = none → mset es n v = es ++ [(n,v)]
 | [],_,_,_ => rfl
 | (k,w) :: es,n,v,h => by
   unfold mfind at h
   unfold mset
   split at h
   ·cases h
   ·rename_i hk
    split at h
    ·cases h
    ·rename_i hh
     try rw [hk]
     simp only [List.cons_append]
     rw [mset_none v hh]
theorem mset_some {α : Type} : ∀ {es : List (Int × α)} {n : Int} {j : Nat} {u : α} (v : α),mfind es n = some (j,u) → mset es n v = es.set j (n,v)
 | (k,w) :: es,n,j,u,v,h => by
   unfold mfind at h
   unfold mset
   split at h
   ·rename_i hk
    obtain ⟨rfl,rfl⟩:=Prod.mk.inj (Option.some.inj h)
    first | (rw [hk];rfl) | rfl
   ·rename_i hk
    split at h
    ·rename_i j' v' hh
     obtain ⟨rfl,rfl⟩:=Prod.mk.inj (Option.some.inj h)
     try rw [hk]
     simp only [List.set_cons_succ]
     rw [mset_some v hh]
    ·cases h
section
variable {P : Program} {w : World}
theorem run_lookup_map {t kt et : TypeId} {k : IntKind} {c : CK} {d : c.ty} (hu : P.underlying t = some (.map kt et)) (hk : P.underlying kt = some (.int k)) (hz : (zeroValue et).run P w = .ok (c.val d) w) {b : Nat} {ents : Array MapEntry} {clock : Nat}
  (hb : w.heap[b]? = some (.map ents clock)) {es : List (Int × c.ty)} (he : ents.toList.map (fun e => (e.key,e.val)) = entsOf k c es) (n : Int) (ok : Bool) :
  (Instr.lookup t (.map (some b)) (.int k n) ok).run P w = .ok (if ok then .tuple #[c.val (mget es n d),.bool (mhas es n)] else c.val (mget es n d)) w:=by
 have hf:=run_findKey (w:=w) hk (findNow_spec k c n es ents.toList 0 he)
 have hc:=run_checkKey (w:=w) (k:=.int k n) hk (by simp [IsKey]) ents.isEmpty 9999
 unfold Instr.lookup
 simp only [Sem.run_bind,run_underlying hu,Result.andThen_ok,Go.MapKept.run_getObj_map hb,Sem.run_pure,hc,hf]
 rw [mget_find,mhas_find]
 cases mfind es n with
 | none => simp only [hz,Sem.run_bind,Sem.run_pure,Result.andThen_ok];cases ok <;> rfl
 | some jv => obtain ⟨j,v⟩:=jv;cases ok <;> rfl
theorem run_lookup_nil {t kt et : TypeId} {k : IntKind} {c : CK} {d : c.ty} (hu : P.underlying t = some (.map kt et)) (hk : P.underlying kt = some (.int k)) (hz : (zeroValue et).run P w = .ok (c.val d) w) (n : Int) (ok : Bool) :
  (Instr.lookup t (.map none) (.int k n) ok).run P w = .ok (if ok then .tuple #[c.val d,.bool false] else c.val d) w:=by
 have hf:=run_findKey (w:=w) hk (findNow_spec k c n [] [] 0 rfl)
 have hc:=run_checkKey (w:=w) (k:=.int k n) hk (by simp [IsKey]) (Array.isEmpty (#[] : Array MapEntry)) 9999
 unfold Instr.lookup
 simp only [Sem.run_bind,run_underlying hu,Result.andThen_ok,Sem.run_pure,hc]
 rw [hf]
 simp only [mfind,Result.andThen_ok,Sem.run_bind,hz,Sem.run_pure]
theorem run_mapUpdate_map {t kt et : TypeId} {k : IntKind} {c : CK} (hu : P.underlying t = some (.map kt et)) (hk : P.underlying kt = some (.int k)) {b : Nat} {es : List (Int × c.ty)} (h : MapAt w b k c es) (n : Int) (v : c.ty) :
  ∃ ents' : Array MapEntry,(Instr.mapUpdate t (.map (some b)) (.int k n) (c.val v)).run P w = .ok () { w with heap:=w.heap.setIfInBounds b (.map ents' ents'.size) } ∧
   ents'.toList.map (fun e => (e.key,e.val)) = entsOf k c (mset es n v) ∧ ents'.toList.map (·.born) = List.range ents'.size:=by
 obtain ⟨ents,hb,he,hbo⟩:=h
 have hf:=run_findKey (w:=w) hk (findNow_spec k c n es ents.toList 0 he)
 have hc:=run_checkKey (w:=w) (k:=.int k n) hk (by simp [IsKey]) false 9999
 unfold Instr.mapUpdate
 simp only [Sem.run_bind,run_underlying hu,Result.andThen_ok,Go.MapKept.run_getObj_map hb,hc]
 rw [hf]
 cases hm : mfind es n with
 | none =>
   refine ⟨ents.push { key:=.int k n,val:=c.val v,born:=ents.size },?_,?_,?_⟩
   ·simp only [Result.andThen_ok,Go.MapKept.run_setObj_map _ hb,Array.size_push]
   ·rw [mset_none v hm]
    simp [he,entsOf]
   ·simp [hbo,List.range_succ]
 | some jv =>
   obtain ⟨j,u⟩:=jv
   have hg:=mfind_get hm
   have hj : j < ents.size:=by
    have h1:=congrArg List.length he
    have h2:=(List.getElem?_eq_some_iff.1 hg).1
    simp [entsOf] at h1
    omega
   have hkey : ents[j].key = .int k n:=by
    have h1:=congrArg (fun l => l[j]?) he
    simp only [entsOf,List.getElem?_map,hg,Option.map_some] at h1
    rw [List.getElem?_eq_getElem (by simpa using hj)] at h1
    simpa using (Prod.mk.inj (Option.some.inj h1)).1
   refine ⟨ents.modify j fun e => { e with key:=.int k n,val:=c.val v },?_,?_,?_⟩
   ·have hks : (Instr.keyThatStays (.int k n) (.int k n)).run P w = .ok (.int k n) w:=by
     have : Instr.sameBits 10000 (.int k n) (.int k n) = true:=by simp [Instr.sameBits]
     simp [Instr.keyThatStays,this]
    simp only [Result.andThen_ok,Nat.zero_add,Sem.run_bind]
    rw [show ((ents[j]?).map (·.key)).getD (.int k n) = .int k n by rw [Array.getElem?_eq_getElem hj];simp [hkey]]
    rw [hks]
    simp only [Result.andThen_ok,Go.MapKept.run_setObj_map _ hb,Array.size_modify]
   ·rw [mset_some v hm]
    apply List.ext_getElem?
    intro i
    have h1:=congrArg (fun l => l[i]?) he
    simp only [List.getElem?_map,entsOf,Array.getElem?_toList,Array.getElem?_modify,List.getElem?_set] at h1 ⊢
    by_cases hi : j = i
    ·subst hi
     have h2:=(List.getElem?_eq_some_iff.1 hg).1
     simp [hj,h2]
    ·simpa [hi] using h1
   ·rw [Array.size_modify,← hbo]
    apply List.ext_getElem?
    intro i
    simp only [List.getElem?_map,Array.getElem?_toList,Array.getElem?_modify]
    by_cases hi : j = i
    ·subst hi;cases ents[j]? <;> simp
    ·simp [hi]
end
theorem mapAt_get {w : World} {b : Nat} {k : IntKind} {c : CK} {es : List (Int × c.ty)} (h : MapAt w b k c es) : ∃ ents : Array MapEntry,w.heap[b]? = some (.map ents ents.size) ∧ ents.size = es.length ∧ (ents.toList.map (·.born)).Nodup ∧
  ∀ j (hj : j < ents.size),ents[j].born = j ∧ ents[j].key = .int k (es.getD j (0,c.d)).1 ∧ ents[j].val = c.val (es.getD j (0,c.d)).2:=by
 obtain ⟨ents,h1,h2,h3⟩:=h
 have hl : ents.size = es.length:=by have:=congrArg List.length h2;simpa [entsOf] using this
 refine ⟨ents,h1,hl,by rw [h3];exact List.nodup_range,fun j hj => ?_⟩
 have e1 : (ents.toList.map (·.born))[j]? = some ents[j].born:=by simp [hj]
 rw [h3,List.getElem?_range hj] at e1
 have e2 : (ents.toList.map fun e => (e.key,e.val))[j]? = some (ents[j].key,ents[j].val):=by simp [hj]
 rw [h2,entsOf,List.getElem?_map,List.getElem?_eq_getElem (by omega),Option.map_some] at e2
 have e3:=Option.some.inj e2
 simp only [Prod.mk.injEq] at e3
 rw [List.getD_eq_getElem?_getD,List.getElem?_eq_getElem (by omega)]
 exact ⟨(Option.some.inj e1).symm,e3.1.symm,e3.2.symm⟩
theorem mem_ents {ents : Array MapEntry} {e : MapEntry} (h : e ∈ ents.toList) : ∃ j,∃ hj : j < ents.size,ents[j] = e:=by
 obtain ⟨j,hj,he⟩:=List.getElem_of_mem h
 exact ⟨j,by simpa using hj,by simpa using he⟩
theorem pl_ok {N : Nat} {ρ : Keys} {c : CK} {v : c.ty} : (c.pl v).ok N ρ (c.val v):=by
 cases c with
 | int k => exact ⟨rfl,rfl⟩
 | bool => exact ⟨rfl,rfl⟩
 | str => exact ⟨rfl,rfl⟩
 | sl => exact trivial
theorem run_entry_mapAt {P : Program} {w : World} {r bm : Nat} {k : IntKind} {c : CK} {es : List (Int × c.ty)} {n j : Nat} {seen : List Nat} (hm : MapAt w bm k c es) (hr : w.heap[r]? = some (.mapIter (some bm) n (j :: seen).reverse.toArray n)) (hn : es.length = n) (hj : j < n) :
  (Instr.entry (.pointer (some ⟨r,0,none⟩))).run P w = .ok (.tuple #[.int k (es.getD j (0,c.d)).1,c.val (es.getD j (0,c.d)).2]) w:=by
 obtain ⟨ents,h1,h2,h3,h4⟩:=mapAt_get hm
 have hj' : j < ents.size:=by omega
 obtain ⟨b1,b2,b3⟩:=h4 j hj'
 have:=run_entry_at (P:=P) w r bm n seen.reverse.toArray ents ents.size ents[j] (by rw [hr,b1,h2,hn];simp) h1 (by simp) h3
 rw [b2,b3] at this
 exact this
theorem run_next_mapAt {P : Program} {w : World} {r bm : Nat} {k : IntKind} {c : CK} {es : List (Int × c.ty)} {n : Nat} {seen : List Nat} {ty : TypeId} (hm : MapAt w bm k c es) (hr : w.heap[r]? = some (.mapIter (some bm) n seen.reverse.toArray n)) (hn : es.length = n) :
  ((∀ j,j < n → j ∈ seen) ∧ (Instr.next (.pointer (some ⟨r,0,none⟩)) false ty).run P w = .ok (.tuple #[.bool false]) w) ∨
  ∃ j,j < n ∧ j ∉ seen ∧ ∃ w1 : World,(w1 = w ∨ w1 = w.drew) ∧ (Instr.next (.pointer (some ⟨r,0,none⟩)) false ty).run P w =
   .ok (.tuple #[.bool true,.int k (es.getD j (0,c.d)).1,c.val (es.getD j (0,c.d)).2]) (Go.ChangeMaps.setBlock w1 r (.mapIter (some bm) n (j :: seen).reverse.toArray n)):=by
 obtain ⟨ents,h1,h2,h3,h4⟩:=mapAt_get hm
 have hold : ∀ x ∈ ents.toList,x.born < n:=fun x hx => by
  obtain ⟨j,hj,rfl⟩:=mem_ents hx
  rw [(h4 j hj).1];omega
 rcases run_next_at (P:=P) w ty r bm n n seen.reverse.toArray ents ents.size hr h1 hold (Nat.le_refl _) with ⟨hz,hrun⟩ | ⟨e,he,w1,hw1,hrun⟩
 ·refine .inl ⟨fun j hj => ?_,hrun⟩
  have hj' : j < ents.size:=by omega
  have hz' : leftOf ents seen.reverse.toArray = #[]:=Array.eq_empty_of_size_eq_zero hz
  unfold leftOf at hz'
  rw [Array.filter_eq_empty_iff] at hz'
  have:=hz' ents[j] (by simp)
  rw [(h4 j hj').1] at this
  simpa using this
 ·unfold leftOf at he
  simp only [Array.toList_filter,List.mem_filter] at he
  obtain ⟨he1,he2⟩:=he
  obtain ⟨j,hj,rfl⟩:=mem_ents he1
  obtain ⟨b1,b2,b3⟩:=h4 j hj
  rw [b1] at he2 hrun
  rw [b2,b3] at hrun
  refine .inr ⟨j,by omega,by simpa using he2,w1,hw1,?_⟩
  rw [hrun,h2,hn]
  simp
theorem memN_true {r : Nat} : ∀ {l : List Nat},r ∈ l → memN r l = true
 | x :: l,h => by
   simp only [memN]
   split
   ·rfl
   ·rename_i hb
    rcases List.mem_cons.1 h with rfl | h
    ·simp at hb
    ·exact memN_true h
theorem memN_not {r : Nat} : ∀ {l : List Nat},r ∉ l → memN r l = false
 | [],_ => rfl
 | x :: l,h => by
   simp only [memN]
   split
   ·rename_i hb;exact absurd (List.mem_cons.2 (.inl (Nat.eq_of_beq_eq_true hb).symm)) h
   ·exact memN_not fun hh => h (List.mem_cons_of_mem _ hh)
end Go.Sy
end
section
namespace Go.Sy
open Go
def vEq : Value → Value → Option Bool
 | .int k a,.int k' b => if k = k' then some (a == b) else none
 | .bool a,.bool b => some (a == b)
 | .string a,.string b => some (a.toList == b.toList)
 | _,_ => none
def vsEq : List Value → List Value → Option Bool
 | [],[] => some true
 | x :: xs,y :: ys => (match vEq x y,vsEq xs ys with | some e,some e' => some (e && e') | _,_ => none)
 | _,_ => none
def vKind : Value → Option Nat
 | .int _ _ => some 0
 | .bool _ => some 1
 | .string _ => some 2
 | _ => none
def vsKind : List Nat → List Value → Prop
 | [],[] => True
 | k :: ks,y :: ys => vKind y = some k ∧ vsKind ks ys
 | _,_ => False
def leafKind (P : Program) (t : TypeId) : Option Nat :=
 match P.underlying t with
 | some (.int _) => some 0
 | some .bool => some 1
 | some .string => some 2
 | _ => none
def eqFieldsK (rec : TypeId → Option (List Nat)) (P : Program) : List Field → Nat → Option (List Nat)
 | [],_ => some []
 | f :: fs,off =>
   match f.name == "_", Nat.beq f.offset off, rec f.type, P.info? f.type with
   | false,true,some ks,some i =>
     (match Nat.beq i.size ks.length,eqFieldsK rec P fs (off + ks.length) with
      | true,some r => some (ks ++ r)
      | _,_ => none)
   | _,_,_,_ => none
def eqKinds (P : Program) : Nat → TypeId → Option (List Nat)
 | 0,_ => none
 | d + 1,t =>
   match leafKind P t with
   | some c => some [c]
   | none =>
     match P.underlying t,P.stoodInHeld t with
     | some (.struct fs),false => eqFieldsK (eqKinds P d) P fs.toList 0
     | _,_ => none
def valOf (P : Program) (t : TypeId) (ys : List Value) : Value :=
 match leafKind P t with
 | some _ => ys.headD undef
 | none => .agg ys.toArray
theorem vsKind.length : ∀ {ks : List Nat} {ys : List Value},vsKind ks ys → ys.length = ks.length
 | [],[],_ => rfl
 | _ :: _,_ :: _,h => by simp [vsKind.length h.2]
theorem vsKind_split : ∀ {ks ks' : List Nat} {ys : List Value},vsKind (ks ++ ks') ys → vsKind ks (ys.take ks.length) ∧ vsKind ks' (ys.drop ks.length)
 | [],_,_,h => ⟨by simp [vsKind],by simpa using h⟩
 | _ :: _,_,_ :: _,h => by
   obtain ⟨h1,h2⟩:=vsKind_split h.2
   exact ⟨⟨h.1,h1⟩,h2⟩
theorem vsEq_split : ∀ (n : Nat) {ys ys' : List Value} {e : Bool},n ≤ ys.length → vsEq ys ys' = some e → ∃ e1 e2,vsEq (ys.take n) (ys'.take n) = some e1 ∧ vsEq (ys.drop n) (ys'.drop n) = some e2 ∧ e = (e1 && e2)
 | 0,ys,ys',e,_,h => ⟨true,e,by simp [vsEq],by simpa using h,by simp⟩
 | n + 1,[],_,_,hl,_ => by simp at hl
 | n + 1,y :: ys,[],_,_,h => by simp [vsEq] at h
 | n + 1,y :: ys,y' :: ys',e,hl,h => by
   simp only [vsEq] at h
   split at h
   ·rename_i e1 e2 h1 h2
    obtain ⟨a,b,ha,hb,rfl⟩:=vsEq_split n (by simpa using hl) h2
    obtain rfl:=Option.some.inj h
    exact ⟨e1 && a,b,by simp [vsEq,h1,ha],hb,by simp [Bool.and_assoc]⟩
   ·cases h
theorem vsEq_length : ∀ {ys ys' : List Value} {e : Bool},vsEq ys ys' = some e → ys.length = ys'.length
 | [],[],_,_ => rfl
 | [],_ :: _,_,h => by simp [vsEq] at h
 | _ :: _,[],_,h => by simp [vsEq] at h
 | y :: ys,y' :: ys',e,h => by
   simp only [vsEq] at h
   split at h
   ·rename_i e1 e2 h1 h2;simp [vsEq_length h2]
   ·cases h
section
variable {P : Program}
theorem run_isAgg_leaf {t : TypeId} {c : Nat} (h : leafKind P t = some c) (w : World) : (isAgg t).run P w = .ok false w:=by
 unfold leafKind at h
 split at h
 ·rename_i hu;simp [isAgg,run_underlying hu]
 ·rename_i hu;simp [isAgg,run_underlying hu]
 ·rename_i hu;simp [isAgg,run_underlying hu]
 ·cases h
theorem run_equalIn_leaf {t : TypeId} {c : Nat} (h : leafKind P t = some c) {x y : Value} (hx : vKind x = some c) {e : Bool} (he : vEq x y = some e) (d : Nat) (w : World) : (Op.equalIn (d + 1) t x y).run P w = .ok e w:=by
 unfold leafKind at h
 split at h
 ·rename_i k hu
  obtain rfl:=Option.some.inj h
  cases x <;> simp [vKind] at hx
  cases y <;> simp [vEq] at he
  obtain ⟨rfl,rfl⟩:=he
  simp [Op.equalIn,run_underlying hu]
 ·rename_i hu
  obtain rfl:=Option.some.inj h
  cases x <;> simp [vKind] at hx
  cases y <;> simp [vEq] at he
  subst he
  simp [Op.equalIn,run_underlying hu]
 ·rename_i hu
  obtain rfl:=Option.some.inj h
  cases x <;> simp [vKind] at hx
  cases y <;> simp [vEq] at he
  subst he
  simp [Op.equalIn,run_underlying hu,beq_toListBytes]
 ·cases h
theorem run_part {t : TypeId} {d : Nat} {ks : List Nat} {i : TypeInfo} (hk : eqKinds P d t = some ks) (hi : P.info? t = some i) (hs : i.size = ks.length) (xs : List Value) (off : Nat) (hl : off + ks.length ≤ xs.length) (w : World) :
  (part t xs.toArray off).run P w = .ok (valOf P t ((xs.drop off).take ks.length)) w:=by
 cases d with
 | zero => cases hk
 | succ d =>
   unfold eqKinds at hk
   split at hk
   ·rename_i c hc
    obtain rfl:=Option.some.inj hk
    simp only [List.length_singleton] at hl
    simp only [part,Sem.run_bind,run_isAgg_leaf hc,Result.andThen_ok,Bool.false_eq_true,if_false,valOf,hc]
    rw [List.getElem?_toArray,List.getElem?_eq_getElem (by omega)]
    simp only [Sem.run_pure]
    congr 1
    rw [List.drop_eq_getElem_cons (by omega)]
    rfl
   ·rename_i hc
    split at hk
    ·rename_i fs hu hp
     have ha : (isAgg t).run P w = .ok true w:=by simp [isAgg,run_underlying hu]
     simp only [part,Sem.run_bind,ha,Result.andThen_ok,if_true,sizeOf,typeInfo,run_program,hi,Sem.run_pure,valOf,hc,hs]
     congr 2
     apply Array.ext'
     simp [List.extract_eq_take_drop]
    ·cases hk
theorem eqFields_sound {rec : TypeId → Option (List Nat)} {d D : Nat} (hrec : ∀ t ks,rec t = some ks → eqKinds P d t = some ks)
  (H : ∀ t ks,eqKinds P d t = some ks → ∀ ys ys' e,vsKind ks ys → vsEq ys ys' = some e → ∀ w,(Op.equalIn D t (valOf P t ys) (valOf P t ys')).run P w = .ok e w) :
  ∀ (fs : List Field) (off : Nat) (ks : List Nat),eqFieldsK rec P fs off = some ks → ∀ (xs xs' : List Value) (e : Bool),vsKind ks (xs.drop off) → vsEq (xs.drop off) (xs'.drop off) = some e → off ≤ xs.length → off ≤ xs'.length → ∀ w,(Op.eqFields D xs.toArray xs'.toArray fs).run P w = .ok e w
 | [],off,ks,hk,xs,xs',e,hv,he,_,_,w => by
   obtain rfl:=Option.some.inj hk
   have h1:=hv.length
   cases hx : xs.drop off with
   | cons => rw [hx] at h1;simp at h1
   | nil =>
     rw [hx] at he
     cases hy : xs'.drop off with
     | cons => rw [hy] at he;simp [vsEq] at he
     | nil => rw [hy] at he;simp [vsEq] at he;subst he;rfl
 | f :: fs,off,ks,hk,xs,xs',e,hv,he,hl,hl',w => by
   unfold eqFieldsK at hk
   split at hk
   ·rename_i ks1 i hn ho hr hi
    split at hk
    ·rename_i r hsz hfs
     obtain rfl:=Option.some.inj hk
     have ho' : f.offset = off:=Nat.eq_of_beq_eq_true ho
     have hsz' : i.size = ks1.length:=Nat.eq_of_beq_eq_true hsz
     have hk1:=hrec _ _ hr
     obtain ⟨v1,v2⟩:=vsKind_split hv
     have hlen:=hv.length
     rw [List.length_append,List.length_drop] at hlen
     have hlen':=vsEq_length he
     rw [List.length_drop,List.length_drop] at hlen'
     obtain ⟨e1,e2,q1,q2,rfl⟩:=vsEq_split ks1.length (by rw [List.length_drop];omega) he
     rw [List.drop_drop] at v2 q2
     rw [List.drop_drop] at q2
     have ih:=eqFields_sound hrec H fs (off + ks1.length) r hfs xs xs' e2 v2 q2 (by omega) (by omega) w
     have hne : f.name ≠ "_" := by simpa using hn
     simp only [Op.eqFields,hne,ne_eq,not_false_eq_true,if_true,ho',Sem.run_bind,run_part hk1 hi hsz' xs off (by omega),run_part hk1 hi hsz' xs' off (by omega),Result.andThen_ok,H _ _ hk1 _ _ _ v1 q1]
     cases e1
     ·simp
     ·simpa using ih
    ·cases hk
   ·cases hk
theorem eqKinds_sound : ∀ (d D : Nat),d ≤ D → ∀ (t : TypeId) (ks : List Nat),eqKinds P d t = some ks → ∀ (ys ys' : List Value) (e : Bool),vsKind ks ys → vsEq ys ys' = some e → ∀ w,(Op.equalIn D t (valOf P t ys) (valOf P t ys')).run P w = .ok e w
 | 0,_,_,_,_,hk,_,_,_,_,_,_ => by cases hk
 | d + 1,0,hD,_,_,_,_,_,_,_,_,_ => by omega
 | d + 1,D + 1,hD,t,ks,hk,ys,ys',e,hv,he,w => by
   unfold eqKinds at hk
   split at hk
   ·rename_i c hc
    obtain rfl:=Option.some.inj hk
    match ys,hv with
    | [y],hv =>
      have hl:=vsEq_length he
      match ys',hl with
      | [y'],_ =>
        simp only [vsEq] at he
        split at he
        ·rename_i e1 e2 h1 h2
         obtain rfl:=Option.some.inj h2
         obtain rfl:=Option.some.inj he
         simp only [valOf,hc,List.headD_cons,Bool.and_true]
         exact run_equalIn_leaf hc hv.1 h1 D w
        ·cases he
   ·rename_i hc
    split at hk
    ·rename_i fs hu hp
     have hu' : P.underlying t = some (.struct (P.fieldsOf t)):=by simp [Program.fieldsOf,hu]
     have hf : P.fieldsOf t = fs:=by simp [Program.fieldsOf,hu]
     simp only [valOf,hc]
     rw [run_equalIn_agg (ht:=hu') (hp:=hp),hf]
     exact eqFields_sound (d:=d) (D:=D) (fun _ _ h => h) (fun t ks hk ys ys' e hv he w => eqKinds_sound d D (by omega) t ks hk ys ys' e hv he w) fs.toList 0 ks hk ys ys' e (by simpa using hv) (by simpa using he) (Nat.zero_le _) (Nat.zero_le _) w
    ·cases hk
end
end Go.Sy
end
section
namespace Go.Sy
open Go Go.RowKit
universe u
def obl : List Duty → Prop
 | [] => True
 | q :: qs => q.p ∧ obl qs
theorem Duty.of_p (p : Prop) [Decidable p] : ((Duty.of (p))).p = p:=rfl
theorem oblige_iff : ∀ (c : Bool) (q : List Duty) (p : Prop),oblige c q p ↔ obl q ∧ p
 | _,[],p => by show p ↔ _;simp [obl]
 | c,q :: qs,p => by
   show (match c with | true => (match q.b with | true => oblige c qs p | false => False) | false => Ob q.p ∧ oblige c qs p) ↔ _
   cases c
   ·simp only [obl,oblige_iff false qs p,and_assoc,show Ob q.p ↔ q.p from ⟨Ob.h,Ob.mk⟩]
   ·have hq:=q.h
    simp only [obl]
    rw [← hq,and_assoc,← oblige_iff true qs p]
    cases q.b <;> simp
theorem obl_append : ∀ (q q' : List Duty),obl (q ++ q') ↔ obl q ∧ obl q'
 | [],q' => by simp [obl]
 | q :: qs,q' => by simp only [List.cons_append,obl,obl_append qs q',and_assoc]
def plainD : TypeDesc → Bool
 | .struct _ | .array _ _ => false
 | _ => true
def TyOk (P : Program) (t : TypeId) : Ty → Prop
 | .int k => P.underlying t = some (.int k) ∧ (P.info? t).map (·.size) = some 1
 | .bool => P.underlying t = some .bool ∧ (P.info? t).map (·.size) = some 1
 | .str => P.underlying t = some .string ∧ (P.info? t).map (·.size) = some 1
 | .st fs n => (∃ fields,P.underlying t = some (.struct fields) ∧ fields.toList.mapM (fun f => (P.info? f.type).map fun i => (f.offset,i.size)) = some fs) ∧ (P.info? t).map (·.size) = some n
 | .sl e m => P.underlying t = some (.slice e) ∧ (P.info? e).map (·.size) = some m ∧ (P.info? t).map (·.size) = some 1
 | .ar e m n => P.underlying t = some (.array n e) ∧ (P.info? e).map (·.size) = some m ∧ (P.info? t).map (·.size) = some (n * m)
 | .map k e => P.underlying t = some (.map k e) ∧ (P.info? t).map (·.size) = some 1
 | .word => (∃ d,P.underlying t = some d ∧ plainD d = true) ∧ (P.info? t).map (·.size) = some 1
 | .other => True
def Tup.zero : (tg : List CK) → List Value
 | [] => []
 | c :: cs => (match c with | .int k => .int k 0 | .bool => .bool false | .str => .string ByteArray.empty | .sl _ _ => .slice none 0 0) :: Tup.zero cs
def At.plain : At → Bool
 | .p .. | .sl .. | .fn .. | .mp .. | .it .. | .yl .. => false
 | _ => true
def Reg.flat : Reg → Bool
 | .dead => true
 | .box _ l => allL At.plain l
 | .arr _ tg _ _ _ => flatK tg
 | _ => false
def Ctr.Ok (P : Program) (Γ : Glob) (f : FuncId) : Ctr → Prop
 | .fn F => ∀ args rg q t,F args rg = some (q,t) → obl q → ∀ (M : Nat → Prop) (w0 : World) (ρ : Keys) (w : World) (vs : List Value),w0.heap.size ≤ w.heap.size → (∀ b,b < Γ.n → b < w.heap.size) → Γ.G w →
    okL (Tm.ok rg.length ρ) args vs → Regs M w0 rg.length ρ rg w →
    Calls P f vs.toArray w fun e w' => ∃ v,e = .returned v ∧ t.ok rg.length ρ v ∧ Below w.heap.size w w'
 | .new C => ∀ args rg K,C args rg K → ∀ (M : Nat → Prop) (w0 : World) (ρ : Keys) (w : World) (vs : List Value),w0.heap.size ≤ w.heap.size → (∀ b,b < Γ.n → ¬ M b ∧ b < w0.heap.size) → Γ.G w →
    okL (Tm.ok rg.length ρ) args vs → Regs M w0 rg.length ρ rg w →
    Calls P f vs.toArray w fun e w' => ∃ (v : Value) (res : Res) (ρ' : Keys),e = .returned v ∧ K res ∧ Below w.heap.size w w' ∧
     (∀ r,r < rg.length → ∀ π,ρ' r π = ρ r π) ∧ (res.tm.ren (fun r => rg.length + r)).ok (rg.length + res.rg.length) ρ' v ∧
     Regs M w0 (rg.length + res.rg.length) ρ' (rg ++ res.rg) w'
 | .rel C => ∀ args rg K,C args rg K → ∀ (M : Nat → Prop) (w0 : World) (ρ : Keys) (w : World) (vs : List Value),w0.heap.size ≤ w.heap.size → (∀ b,b < Γ.n → ¬ M b ∧ b < w0.heap.size) → Γ.G w →
    okL (Tm.ok rg.length ρ) args vs → Regs M w0 rg.length ρ rg w →
    Calls P f vs.toArray w fun e w' => ∃ (v : Value) (ch : List (Nat × Reg)) (res : Res) (ρ' : Keys),e = .returned v ∧ K ch res ∧
     Frame (fun b => ∃ (r : Nat) (g : Reg) (π : Path) (B : Blk),rg[r]? = some g ∧ g.has π true B ∧ (ρ r π).void = false ∧ (ρ r π).b = b) w w' ∧
     (∀ r,r < rg.length → ∀ π,ρ' r π = ρ r π) ∧ (∀ c ∈ ch,c.1 < rg.length) ∧ (res.tm.ren (fun r => rg.length + r)).ok (rg.length + res.rg.length) ρ' v ∧
     Regs M w0 (rg.length + res.rg.length) ρ' (ch.foldl (fun rg c => rg.set c.1 c.2) rg ++ res.rg) w'
def CK.ne : CK → Bool
 | .sl _ [] => false
 | _ => true
structure EnvOk (P : Program) (Γ : Glob) (E : Env) : Prop where
 ty : ∀ t,TyOk P t (E.ty t)
 zero : ∀ t l,E.zero t = some l → allL At.one l = true ∧ ∃ i z,P.info? t = some i ∧ i.zero = some z ∧ ∀ N ρ,okL (At.ok N ρ) l z.cells.toList
 eqs : ∀ t ks,E.eqs t = some ks → eqKinds P 8 t = some ks ∧ leafKind P t = none ∧ P.eqGuardType P.depth t = false
 kd : ∀ t tg,E.kd t = some tg → tg ≠ [] ∧ (∃ i z,P.info? t = some i ∧ i.size = tg.length ∧ i.zero = some z ∧ z.cells.toList = Tup.zero tg ∧ i.bytes ≤ 32 * tg.length)
 kn : ∀ t tg,E.kd t = some tg → allL CK.ne tg = true
 sc : ∀ t c,E.sc t = some c → ∃ i,P.info? t = some i ∧ i.zero = some (c.val c.d)
 lf : ∀ t f,E.lf t f = true → ∀ fields fd,P.underlying t = some (.struct fields) → fields[f]? = some fd → ∀ w,(isAgg fd.type).run P w = .ok false w
 ct : ∀ f c,E.ct f = some c → Ctr.Ok P Γ f c
 ifc : ∀ t,E.ifc t = true → P.underlying t = some (.interface (P.methodsAt t))
section
variable {P : Program} {Γ : Glob} {E : Env} {M : Nat → Prop} {w0 : World} {ρ : Keys} {st : St} {vs : Fv} {a : Act} {w : World}
theorem ev_sound (h : Rel Γ M w0 ρ st vs a w) {o : Operand} {x : Tm} (he : ev st o = some x) : x.ok st.rg.length ρ (a.eval o):=by
 cases o with
 | tmp t =>
   simp only [ev,Option.some.injEq] at he
   subst he
   exact h.tm.h t
 | const v =>
   simp only [ev] at he
   cases v <;> simp only [constTm] at he
   case bool b => cases b <;> simp only [Option.some.injEq] at he <;> subst he <;> rfl
   all_goals first | (simp only [Option.some.injEq] at he;subst he;exact ⟨rfl,rfl⟩) | cases he
 | global g =>
   simp only [ev,Option.some.injEq] at he
   subst he
   exact ⟨rfl,rfl⟩
 | func f =>
   simp only [ev,Option.some.injEq] at he
   subst he
   exact ⟨by simp,by simp [Act.eval]⟩
theorem boolA_sound {N : Nat} {x : At} {b : Bool} {y : Value} (hx : x.ok N ρ y) (hb : boolA x = some b) : y = .bool b:=by
 unfold boolA at hb
 split at hb <;> simp only [Option.some.injEq,reduceCtorEq] at hb <;> subst hb
 ·exact hx
 ·exact hx
 ·exact hx.1
theorem boolOf_sound {N : Nat} {x : Tm} {b : Bool} {y : Value} (hx : x.ok N ρ y) (hb : boolOf x = some b) : y = .bool b:=by
 cases x with
 | a x => exact boolA_sound hx hb
 | agg l => cases hb
 | tup l => cases hb
theorem sameKind_eq {k k' : IntKind} (h : sameKind k k' = true) : k = k':=by
 cases k <;> cases k' <;> first | rfl | cases h
theorem inR_wrap {k : IntKind} {n : Int} (h : inR k n) : k.wrap n = n:=by
 cases k <;> simp only [inR] at h
 ·exact IntWalk.i8_in n h
 ·exact IntWalk.i16_in n h
 ·exact IntWalk.i32_in n h
 ·exact IntWalk.i64_in n h
 ·exact IntWalk.u8_in n h
 ·exact IntWalk.u16_in n h
 ·exact IntWalk.u32_in n h
 ·exact IntWalk.u64_in n h
theorem wrapped_sound {q q0 : List Duty} {k : IntKind} {n : Int} {x : Tm} (he : wrapped E q0 k n = some (q,x)) (hq : obl q) {N : Nat} : obl q0 ∧ x.ok N ρ (.int k (k.wrap n)):=by
 unfold wrapped at he
 split at he <;> simp only [Option.some.injEq,Prod.mk.injEq] at he <;> obtain ⟨rfl,rfl⟩:=he
 ·rw [obl_append] at hq
  exact ⟨hq.1,⟨by rw [inR_wrap hq.2.1],rfl⟩⟩
 ·exact ⟨hq,⟨rfl,rfl⟩⟩
theorem evSh_sound {op : BinOp} {t : TypeId} {k k' : IntKind} {m n : Int} {q : List Duty} {x : Tm} (he : evSh E op k m n = some (q,x)) (hq : obl q) (u v : Operand) {N : Nat} :
  ∃ y,(do eqGuard op t u v (.int k m) (.int k' n);binOp op t (.int k m) (.int k' n) : Sem Value).run P w = .ok y w ∧ x.ok N ρ y:=by
 cases op <;> simp only [evSh,reduceCtorEq] at he
 case shl =>
  have h1:=wrapped_sound (ρ:=ρ) (N:=N) he hq
  obtain ⟨⟨h2,h3,_⟩,h4⟩:=h1
  simp only [Duty.of_p] at h2 h3
  have h5 : min n.toNat k.bits = n.toNat:=Nat.min_eq_left (by omega)
  exact ⟨_,by simp [eqGuard,binOp,Op.shift,Int.not_lt.mpr h2,h5],h4⟩
 case shr =>
  obtain ⟨rfl,rfl⟩:=Prod.mk.inj (Option.some.inj he)
  obtain ⟨h2,h3,_⟩:=hq
  simp only [Duty.of_p] at h2 h3
  have h5 : min n.toNat k.bits = n.toNat:=Nat.min_eq_left (by omega)
  have hp : (0 : Int) ≤ 2 ^ n.toNat:=Int.le_of_lt (Int.pow_pos (by omega))
  exact ⟨.int k (m / 2 ^ n.toNat),by simp [eqGuard,binOp,Op.shift,Int.not_lt.mpr h2,h5,Int.fdiv_eq_ediv_of_nonneg _ hp],rfl,rfl⟩
theorem ofInt_nat {b : Nat} {a : Int} (h0 : 0 ≤ a) (h1 : a.toNat < 2 ^ b) : (BitVec.ofInt b a).toNat = a.toNat:=by
 rw [BitVec.toNat_ofInt,Int.emod_eq_of_lt h0 (by have : ((2 ^ b : Nat) : Int) = (2 : Int) ^ b:=by simp
                                                 omega)]
theorem topOf (k : IntKind) : ∃ p,(∀ c : Nat,c < 2 ^ p → inR k c) ∧ ∀ a : Int,0 ≤ a → inR k a → a.toNat < 2 ^ p ∧ a.toNat < 2 ^ k.bits:=by
 cases k
 ·exact ⟨7,fun c hc => by simp only [inR];omega,fun a h0 h => by simp only [inR] at h;exact ⟨by omega,by show a.toNat < 2 ^ 8;omega⟩⟩
 ·exact ⟨15,fun c hc => by simp only [inR];omega,fun a h0 h => by simp only [inR] at h;exact ⟨by omega,by show a.toNat < 2 ^ 16;omega⟩⟩
 ·exact ⟨31,fun c hc => by simp only [inR];omega,fun a h0 h => by simp only [inR] at h;exact ⟨by omega,by show a.toNat < 2 ^ 32;omega⟩⟩
 ·exact ⟨63,fun c hc => by simp only [inR];omega,fun a h0 h => by simp only [inR] at h;exact ⟨by omega,by show a.toNat < 2 ^ 64;omega⟩⟩
 ·exact ⟨8,fun c hc => by simp only [inR];omega,fun a h0 h => by simp only [inR] at h;exact ⟨by omega,by show a.toNat < 2 ^ 8;omega⟩⟩
 ·exact ⟨16,fun c hc => by simp only [inR];omega,fun a h0 h => by simp only [inR] at h;exact ⟨by omega,by show a.toNat < 2 ^ 16;omega⟩⟩
 ·exact ⟨32,fun c hc => by simp only [inR];omega,fun a h0 h => by simp only [inR] at h;exact ⟨by omega,by show a.toNat < 2 ^ 32;omega⟩⟩
 ·exact ⟨64,fun c hc => by simp only [inR];omega,fun a h0 h => by simp only [inR] at h;exact ⟨by omega,by show a.toNat < 2 ^ 64;omega⟩⟩
theorem and_wrap {k : IntKind} {a b : Int} (h0 : 0 ≤ a) (h1 : 0 ≤ b) (h2 : inR k a) (h3 : inR k b) : k.wrap ((BitVec.ofInt k.bits a &&& BitVec.ofInt k.bits b).toNat : Int) = ((a.toNat &&& b.toNat : Nat) : Int):=by
 obtain ⟨p,hp,ha⟩:=topOf k
 obtain ⟨a1,a2⟩:=ha a h0 h2
 obtain ⟨b1,b2⟩:=ha b h1 h3
 rw [BitVec.toNat_and,ofInt_nat h0 a2,ofInt_nat h1 b2]
 exact inR_wrap (hp _ (Nat.and_lt_two_pow _ b1))
theorem or_wrap {k : IntKind} {a b : Int} (h0 : 0 ≤ a) (h1 : 0 ≤ b) (h2 : inR k a) (h3 : inR k b) : k.wrap ((BitVec.ofInt k.bits a ||| BitVec.ofInt k.bits b).toNat : Int) = ((a.toNat ||| b.toNat : Nat) : Int):=by
 obtain ⟨p,hp,ha⟩:=topOf k
 obtain ⟨a1,a2⟩:=ha a h0 h2
 obtain ⟨b1,b2⟩:=ha b h1 h3
 rw [BitVec.toNat_or,ofInt_nat h0 a2,ofInt_nat h1 b2]
 exact inR_wrap (hp _ (Nat.or_lt_two_pow a1 b1))
theorem evInt_sound {op : BinOp} {t : TypeId} {k : IntKind} {m n : Int} {q : List Duty} {x : Tm} (he : evInt E op k m n = some (q,x)) (hq : obl q) (u v : Operand) {N : Nat} :
  ∃ y,(do eqGuard op t u v (.int k m) (.int k n);binOp op t (.int k m) (.int k n) : Sem Value).run P w = .ok y w ∧ x.ok N ρ y:=by
 cases op <;> simp only [evInt] at he
 case add => exact ⟨_,by simp [eqGuard,binOp,Op.intArith],(wrapped_sound he hq).2⟩
 case sub => exact ⟨_,by simp [eqGuard,binOp,Op.intArith],(wrapped_sound he hq).2⟩
 case mul => exact ⟨_,by simp [eqGuard,binOp,Op.intArith],(wrapped_sound he hq).2⟩
 case quo =>
  have h1:=wrapped_sound (ρ:=ρ) (N:=N) he hq
  exact ⟨_,by simp [eqGuard,binOp,Op.intDiv,show n ≠ 0 from h1.1.1],h1.2⟩
 case shl => exact evSh_sound he hq u v
 case shr => exact evSh_sound he hq u v
 all_goals first | (simp only [Option.some.injEq,Prod.mk.injEq] at he;obtain ⟨rfl,rfl⟩:=he) | cases he
 case and => exact ⟨.int k ((m.toNat &&& n.toNat : Nat) : Int),by simp only [eqGuard,binOp,Op.intBits];rw [← and_wrap hq.1 hq.2.1 hq.2.2.1 hq.2.2.2.1];simp,rfl,rfl⟩
 case or => exact ⟨.int k ((m.toNat ||| n.toNat : Nat) : Int),by simp only [eqGuard,binOp,Op.intBits];rw [← or_wrap hq.1 hq.2.1 hq.2.2.1 hq.2.2.2.1];simp,rfl,rfl⟩
 case rem => exact ⟨_,by simp [eqGuard,binOp,Op.intDiv,show n ≠ 0 from hq.1],rfl,rfl⟩
 all_goals exact ⟨_,by simp [eqGuard,binOp,Op.intCmp],rfl,rfl⟩
theorem lenIs_length {α : Type u} : ∀ {l : List α} {n : Nat},lenIs l n = true → l.length = n
 | [],0,_ => rfl
 | _ :: l,n + 1,h => by simp [lenIs_length (l:=l) (n:=n) h]
 | [],n + 1,h => by simp [lenIs] at h
 | _ :: _,0,h => by simp [lenIs] at h
theorem run_equal_bool {t : TypeId} (hu : P.underlying t = some .bool) (c d : Bool) : (Op.equal t (.bool c) (.bool d)).run P w = .ok (c == d) w:=by
 have : ∀ n,(Op.equalIn (n + 1) t (.bool c) (.bool d)).run P w = .ok (c == d) w:=fun n => by
  simp [Op.equalIn,run_underlying hu]
 exact this 9999
theorem kindA_ok {N : Nat} {ρ : Keys} {x : At} {y : Value} (h : x.ok N ρ y) {k : Nat} (hk : Nat.beq k (kindA x) = true) (h3 : kindA x ≠ 3) : vKind y = some k:=by
 obtain rfl:=Nat.eq_of_beq_eq_true hk
 cases x with
 | v x => obtain ⟨rfl,_⟩:=h;cases y <;> first | rfl | (simp [kindA] at h3;done)
 | tt => obtain rfl : y = .bool true:=h;rfl
 | ff => obtain rfl : y = .bool false:=h;rfl
 | _ => simp [kindA] at h3
theorem boolA_ok {N : Nat} {ρ : Keys} {x : At} {y : Value} {b : Bool} (h : x.ok N ρ y) (hb : boolA x = some b) : y = .bool b:=by
 cases x with
 | v x => obtain ⟨rfl,_⟩:=h;cases y <;> simp [boolA] at hb;subst hb;rfl
 | tt => obtain rfl : y = .bool true:=h;simp [boolA] at hb;subst hb;rfl
 | ff => obtain rfl : y = .bool false:=h;simp [boolA] at hb;subst hb;rfl
 | _ => simp [boolA] at hb
theorem cellEq_ok {N : Nat} {ρ : Keys} {x x' : At} {y y' : Value} {e : Bool} (hc : cellEq x x' = some e) (h : x.ok N ρ y) (h' : x'.ok N ρ y') : vEq y y' = some e ∧ kindA x ≠ 3:=by
 unfold cellEq at hc
 split at hc
 ·rename_i k a k' b
  split at hc
  ·rename_i hk
   obtain rfl:=sameKind_eq hk
   obtain rfl:=Option.some.inj hc
   obtain ⟨rfl,_⟩:=h
   obtain ⟨rfl,_⟩:=h'
   exact ⟨by simp [vEq],by simp [kindA]⟩
  ·cases hc
 ·obtain rfl:=Option.some.inj hc
  obtain ⟨rfl,_⟩:=h
  obtain ⟨rfl,_⟩:=h'
  exact ⟨rfl,by simp [kindA]⟩
 ·split at hc
  ·rename_i a b ha hb
   obtain rfl:=Option.some.inj hc
   have e1:=boolA_ok h ha
   have e2:=boolA_ok h' hb
   subst e1 e2
   refine ⟨rfl,?_⟩
   cases x with
   | v x => cases x <;> simp [boolA] at ha;simp [kindA]
   | tt => simp [kindA]
   | ff => simp [kindA]
   | _ => simp [boolA] at ha
  ·cases hc
theorem cellsEq_ok {N : Nat} {ρ : Keys} : ∀ {l l' : List At} {ks : List Nat} {e : Bool} {ys ys' : List Value},kindsAre ks l = true → cellsEq l l' = some e → okL (At.ok N ρ) l ys → okL (At.ok N ρ) l' ys' → vsKind ks ys ∧ vsEq ys ys' = some e
 | [],[],[],e,[],[],_,hc,_,_ => ⟨trivial,hc⟩
 | x :: l,x' :: l',k :: ks,e,y :: ys,y' :: ys',hk,hc,h,h' => by
   simp only [kindsAre] at hk
   simp only [cellsEq] at hc
   split at hk
   ·rename_i hk1
    split at hc
    ·rename_i e1 e2 q1 q2
     obtain rfl:=Option.some.inj hc
     obtain ⟨a1,a2⟩:=cellEq_ok q1 h.1 h'.1
     obtain ⟨b1,b2⟩:=cellsEq_ok hk q2 h.2 h'.2
     exact ⟨⟨kindA_ok h.1 hk1 a2,b1⟩,by simp [vsEq,a1,b2]⟩
    ·cases hc
   ·cases hk
 | [],_ :: _,_,_,_,_,_,hc,_,_ => by simp [cellsEq] at hc
 | _ :: _,[],_,_,_,_,_,hc,_,_ => by simp [cellsEq] at hc
 | [],[],_ :: _,_,_,_,hk,_,_,_ => by simp [kindsAre] at hk
 | _ :: _,_ :: _,[],_,_,_,hk,_,_,_ => by simp [kindsAre] at hk
theorem eqs_sound {t : TypeId} {ks : List Nat} (hE : eqKinds P 8 t = some ks ∧ leafKind P t = none ∧ P.eqGuardType P.depth t = false) {N : Nat} {ρ : Keys} {l l' : List At} {e : Bool} {ys ys' : List Value} (hk : kindsAre ks l = true) (hc : cellsEq l l' = some e)
  (h1 : okL (At.ok N ρ) l ys) (h2 : okL (At.ok N ρ) l' ys') (x y : Operand) (w : World) :
  (do eqGuard .eql t x y (.agg ys.toArray) (.agg ys'.toArray);binOp .eql t (.agg ys.toArray) (.agg ys'.toArray) : Sem Value).run P w = .ok (.bool e) w ∧
  (do eqGuard .neq t x y (.agg ys.toArray) (.agg ys'.toArray);binOp .neq t (.agg ys.toArray) (.agg ys'.toArray) : Sem Value).run P w = .ok (.bool !e) w:=by
 obtain ⟨hq,hl,hg⟩:=hE
 obtain ⟨v1,v2⟩:=cellsEq_ok hk hc h1 h2
 have H:=eqKinds_sound 8 10000 (by decide) t ks hq ys ys' e v1 v2 w
 simp only [valOf,hl] at H
 constructor
 ·rw [Sem.run_bind,run_eqGuard_agg (hm:=hg),Result.andThen_ok,run_eql_struct,H];rfl
 ·rw [Sem.run_bind,run_eqGuard_agg (hm:=hg),Result.andThen_ok,run_neq_struct,H];rfl
theorem evBin_sound (hE : EnvOk P Γ E) {op : BinOp} {t : TypeId} {x y z : Tm} {q : List Duty} (he : evBin E op t x y = some (q,z)) (hq : obl q) (u v : Operand) {N : Nat} {vx vy : Value}
  (hx : x.ok N ρ vx) (hy : y.ok N ρ vy) : ∃ r,(do eqGuard op t u v vx vy;binOp op t vx vy : Sem Value).run P w = .ok r w ∧ z.ok N ρ r:=by
 unfold evBin at he
 split at he
 ·rename_i k m k' n
  split at he
  ·rename_i hk
   obtain rfl:=sameKind_eq hk
   obtain ⟨rfl,_⟩:=hx
   obtain ⟨rfl,_⟩:=hy
   exact evInt_sound he hq u v
  ·obtain ⟨rfl,_⟩:=hx
   obtain ⟨rfl,_⟩:=hy
   exact evSh_sound he hq u v
 ·rename_i x y
  obtain ⟨rfl,_⟩:=hx
  obtain ⟨rfl,_⟩:=hy
  split at he <;> simp only [Option.some.injEq,Prod.mk.injEq,reduceCtorEq] at he <;> obtain ⟨rfl,rfl⟩:=he
  ·have h1 : ¬ (((x.size + y.size : Nat) : Int) > IntKind.i64.max):=by
    have : (x.size + y.size : Nat) ≤ 9223372036854775807:=hq.1
    have h2 : IntKind.i64.max = 9223372036854775807:=by decide
    rw [h2];omega
   exact ⟨.string (x ++ y),by simp only [eqGuard,binOp,Op.stringOp,Sem.run_bind,Sem.run_pure,Result.andThen_ok];rw [if_neg h1];rfl,rfl,rfl⟩
  ·exact ⟨.bool (x.toList == y.toList),by simp [eqGuard,binOp,Op.stringOp],rfl,rfl⟩
  ·exact ⟨.bool (!(x.toList == y.toList)),by simp [eqGuard,binOp,Op.stringOp],rfl,rfl⟩
 ·rename_i l l'
  split at he
  ·rename_i n e hb hce
   obtain ⟨ys,rfl,h1⟩:=hx
   obtain ⟨ys',rfl,h2⟩:=hy
   have H:=fun hl => eqs_sound (hE.eqs t n hb) hl hce h1 h2 u v w
   split at he <;> simp only [Option.some.injEq,Prod.mk.injEq,reduceCtorEq] at he <;> rename_i hlen <;> replace H:=H hlen
   ·obtain ⟨rfl,rfl⟩:=he;exact ⟨_,H.1,rfl,rfl⟩
   ·obtain ⟨rfl,rfl⟩:=he;exact ⟨_,H.2,rfl,rfl⟩
  ·cases he
 ·split at he
  ·rename_i c d htb hbx hby
   have hu : P.underlying t = some .bool:=by have:=hE.ty t;rw [htb] at this;exact this.1
   have h1:=boolOf_sound hx hbx
   have h2:=boolOf_sound hy hby
   subst h1 h2
   split at he <;> simp only [Option.some.injEq,Prod.mk.injEq,reduceCtorEq] at he <;> obtain ⟨rfl,rfl⟩:=he
   ·exact ⟨.bool (c == d),by simp [eqGuard,binOp,run_equal_bool hu],rfl,rfl⟩
   ·exact ⟨.bool (!(c == d)),by simp [eqGuard,binOp,run_equal_bool hu],rfl,rfl⟩
  ·cases he
theorem evUn_sound {op : UnOp} {x z : Tm} {q : List Duty} (he : evUn E op x = some (q,z)) (hq : obl q) {N : Nat} {vx : Value} (hx : x.ok N ρ vx) :
  ∃ r,(Op.unary op vx).run P w = .ok r w ∧ z.ok N ρ r:=by
 unfold evUn at he
 split at he
 ·obtain ⟨rfl,_⟩:=hx
  exact ⟨_,by simp [Op.unary,Op.intArith],(wrapped_sound he hq).2⟩
 ·simp only [Option.some.injEq,Prod.mk.injEq] at he;obtain ⟨rfl,rfl⟩:=he
  obtain rfl : vx = .bool true:=hx
  exact ⟨_,by simp [Op.unary],rfl⟩
 ·simp only [Option.some.injEq,Prod.mk.injEq] at he;obtain ⟨rfl,rfl⟩:=he
  obtain rfl : vx = .bool false:=hx
  exact ⟨_,by simp [Op.unary],rfl⟩
 ·simp only [Option.some.injEq,Prod.mk.injEq] at he;obtain ⟨rfl,rfl⟩:=he
  obtain ⟨rfl,_⟩:=hx
  exact ⟨_,by simp [Op.unary],rfl,rfl⟩
 ·cases he
theorem evUn_pure {op : UnOp} {x z : Tm} {q : List Duty} (he : evUn E op x = some (q,z)) (hq : obl q) {N : Nat} {vx : Value} (hx : x.ok N ρ vx) :
  ∃ r,(∀ w' : World,(Op.unary op vx).run P w' = .ok r w') ∧ z.ok N ρ r:=by
 unfold evUn at he
 split at he
 ·obtain ⟨rfl,_⟩:=hx
  exact ⟨_,fun _ => by simp [Op.unary,Op.intArith],(wrapped_sound he hq).2⟩
 ·simp only [Option.some.injEq,Prod.mk.injEq] at he;obtain ⟨rfl,rfl⟩:=he
  obtain rfl : vx = .bool true:=hx
  exact ⟨_,fun _ => by simp [Op.unary],rfl⟩
 ·simp only [Option.some.injEq,Prod.mk.injEq] at he;obtain ⟨rfl,rfl⟩:=he
  obtain rfl : vx = .bool false:=hx
  exact ⟨_,fun _ => by simp [Op.unary],rfl⟩
 ·simp only [Option.some.injEq,Prod.mk.injEq] at he;obtain ⟨rfl,rfl⟩:=he
  obtain ⟨rfl,_⟩:=hx
  exact ⟨_,fun _ => by simp [Op.unary],rfl,rfl⟩
 ·cases he
theorem evConv_sound (hE : EnvOk P Γ E) {src dst : TypeId} {k : IntKind} (hs : E.ty src = .int k) {x z : Tm} {q : List Duty} (he : evConv E dst x = some (q,z)) (hq : obl q) {N : Nat} {vx : Value}
  (hx : x.ok N ρ vx) : ∃ r,(convert src dst vx).run P w = .ok r w ∧ z.ok N ρ r:=by
 unfold evConv at he
 split at he
 ·rename_i k' k'' n hd
  have h1 : P.underlying src = some (.int k):=by have:=hE.ty src;rw [hs] at this;exact this.1
  have h2 : P.underlying dst = some (.int k'):=by have:=hE.ty dst;rw [hd] at this;exact this.1
  obtain ⟨rfl,_⟩:=hx
  refine ⟨.int k' (k'.wrap n),by simp [convert,run_underlying h1,run_underlying h2,Conv.intToInt],?_⟩
  cases hc : E.cv <;> rw [hc] at he
  ·exact (wrapped_sound he hq).2
  ·obtain ⟨-,rfl⟩:=Prod.mk.inj (Option.some.inj he)
   exact ⟨rfl,rfl⟩
 ·cases he
/-! ### Reading -/
theorem Ar.dn_has {A : Ar} : ∀ {π : Path} {q : List Duty} {B : Ar},A.dn π = some (q,B) → obl q → A.has π B
 | [],q,B,he,_ => by simp only [Ar.dn,Option.some.injEq,Prod.mk.injEq] at he;exact he.2.symm
 | (i,j) :: π,q,C,he,hq => by
   simp only [Ar.dn] at he
   split at he
   ·rename_i q1 B h1
    split at he
    ·rename_i C' h2
     simp only [Option.some.injEq,Prod.mk.injEq] at he
     obtain ⟨rfl,rfl⟩:=he
     rw [obl_append] at hq
     exact ⟨B,Ar.dn_has h1 hq.1,hq.2.1,h2⟩
    ·cases he
   ·cases he
theorem CK.lies_at {N r : Nat} (hr : r < N) {π : Path} {i j : Nat} : ∀ {c : CK} {x : c.ty} {y : Value},c.lies (ρ r) π i j x y → (c.at r π i j x).ok N ρ y
 | .int _,_,_,h => ⟨h,rfl⟩
 | .bool,_,_,h => ⟨h,rfl⟩
 | .str,_,_,h => ⟨h,rfl⟩
 | .sl _ _,_,_,h => ⟨hr,h⟩
theorem Tup.lies_ats {N r : Nat} (hr : r < N) {π : Path} {i : Nat} : ∀ {tg : List CK} {j : Nat} {x : Tup tg} {ys : List Value},Tup.lies (ρ r) π i j tg x ys → okL (At.ok N ρ) (Tup.ats r π i j tg x) ys
 | [],_,_,_,h => by have h' : _ = []:=h;subst h';trivial
 | [c],_,_,_,h => by obtain ⟨y,rfl,h2⟩:=h;exact ⟨CK.lies_at hr h2,trivial⟩
 | c :: c' :: cs,_,_,_,h => by obtain ⟨y,ys',rfl,h2,h3⟩:=h;exact ⟨CK.lies_at hr h2,Tup.lies_ats hr (tg:=c' :: cs) h3⟩
theorem getD_reg {r : Nat} {g : Reg} (h : st.rg.getD r .dead = g) (hg : g ≠ .dead) : st.rg[r]? = some g:=by
 cases hr : st.rg[r]? with
 | none => simp [List.getD,hr] at h;exact absurd h.symm hg
 | some g' => simp [List.getD,hr] at h;rw [h]
theorem reg_lt {r : Nat} {g : Reg} (h : st.rg[r]? = some g) : r < st.rg.length:=(List.getElem?_eq_some_iff.1 h).1
theorem flat_sub0 {tg : List CK} (hf : flatK tg = true) : ∀ (x : Tup tg) (j : Nat),Tup.sub tg x j = none:=by
 have one : ∀ (c : CK) (x : c.ty),c.flat = true → c.sub x = none:=fun c x h => by cases c <;> first | rfl | cases h
 intro x j
 induction tg generalizing j with
 | nil => rfl
 | cons c cs ih =>
   simp only [flatK] at hf
   split at hf
   ·rename_i hc
    cases cs with
    | nil => cases j with
      | zero => exact one c x hc
      | succ j => rfl
    | cons c' cs =>
      cases j with
      | zero => exact one c x.1 hc
      | succ j => exact ih hf x.2 j
   ·cases hf
theorem flat_has0 {te : TypeId} {tg : List CK} {xs : List (Tup tg)} (hf : flatK tg = true) : ∀ {π : Path} {A : Ar},Ar.has ⟨te,tg,xs⟩ π A → π = [] ∧ A = ⟨te,tg,xs⟩
 | [],_,h => ⟨rfl,h⟩
 | (i,j) :: π,A,h => by
   obtain ⟨B,h1,_,h3⟩:=h
   obtain ⟨rfl,rfl⟩:=flat_has0 hf h1
   rw [flat_sub0 hf] at h3;cases h3
theorem Reg.dn_mps {t : TypeId} {kk : List CK} {e : TypeId} {tg : List CK} {es : List (Tup kk × List (Tup tg))} {o i : Bool} {π : Path} {q : List Duty} {B : Ar} (he : (Reg.mps t kk e tg es o i).dn π = some (q,B)) (hq : obl q) :
  ∃ j,π = [(j,0)] ∧ j < es.length ∧ flatK tg = true ∧ B = ⟨e,tg,(es.getD j (Tup.d kk,[])).2⟩:=by
 simp only [Reg.dn] at he
 split at he
 ·rename_i j hf
  simp only [Option.some.injEq,Prod.mk.injEq] at he
  obtain ⟨rfl,rfl⟩:=he
  exact ⟨j,rfl,hq.1,hf,rfl⟩
 ·cases he
theorem Reg.dn_has {g : Reg} {π : Path} {q : List Duty} {B : Ar} (he : g.dn π = some (q,B)) (hq : obl q) :
  (∃ f,g.has π f (.arr B)) ∧ g ≠ .dead ∧ g.frozen.has π false (.arr B) ∧ ∀ τ D,B.has τ D → (∃ te tg xs o i,g = .arr te tg xs o i ∧ Ar.has ⟨te,tg,xs⟩ π B) ∨ ∃ f,g.has (τ ++ π) f (.arr D):=by
 cases g with
 | arr te tg xs o i =>
   have:=Ar.dn_has he hq
   exact ⟨⟨_,rfl,B,this,rfl⟩,by simp,⟨by cases π <;> rfl,B,this,rfl⟩,fun τ D hD => .inl ⟨_,_,_,_,_,rfl,this⟩⟩
 | mps t kk e tg es o i =>
   obtain ⟨j,rfl,h1,h2,rfl⟩:=Reg.dn_mps he hq
   refine ⟨⟨_,.inr ⟨j,rfl,rfl,h1,h2,rfl⟩⟩,by simp,.inr ⟨j,rfl,rfl,h1,h2,rfl⟩,fun τ D hD => .inr ?_⟩
   obtain ⟨rfl,rfl⟩:=flat_has0 h2 hD
   exact ⟨_,.inr ⟨j,rfl,rfl,h1,h2,rfl⟩⟩
 | dead => cases he
 | box => cases he
 | map => cases he
 | iter => cases he
 | lp => cases he
theorem Reg.dn_arr {g : Reg} {π : Path} {q : List Duty} {B : Ar} (hm : g.mine π = true) (he : g.dn π = some (q,B)) (hq : obl q) : ∃ te tg xs o i,g = .arr te tg xs o i ∧ Ar.has ⟨te,tg,xs⟩ π B ∧ g.has π (flagAt π o i) (.arr B):=by
 cases g with
 | arr te tg xs o i =>
   have:=Ar.dn_has he hq
   exact ⟨te,tg,xs,o,i,rfl,this,rfl,B,this,rfl⟩
 | mps => cases π <;> cases hm
 | dead => cases he
 | box => cases he
 | map => cases he
 | iter => cases he
 | lp => cases he
theorem dn_sound (h : Rel Γ M w0 ρ st vs a w) {r : Nat} {π : Path} {q : List Duty} {B : Ar} (he : (st.rg.getD r .dead).dn π = some (q,B)) (hq : obl q) : r < st.rg.length ∧ B.lies w (ρ r) π:=by
 obtain ⟨⟨f,h2⟩,hnd,_⟩:=Reg.dn_has he hq
 have hr:=getD_reg rfl hnd
 exact ⟨reg_lt hr,h.rs.blk r _ π _ _ hr h2⟩
theorem cellsAt_sound (h : Rel Γ M w0 ρ st vs a w) {r i j n : Nat} {π : Path} {q : List Duty} {l : List At} (he : cellsAt r (st.rg.getD r .dead) π i j n = some (q,l)) (hq : obl q) :
  ∃ ys,okL (At.ok st.rg.length ρ) l ys ∧ l.length = n ∧ ∀ (s : Nat) y,ys[s]? = some y → w.cell? ((ρ r π).at (i * (ρ r π).m + j + s)) = some y:=by
 unfold cellsAt at he
 split at he
 ·rename_i g o cells hg
  split at he
  ·rename_i hlen
   simp only [Option.some.injEq,Prod.mk.injEq] at he
   obtain ⟨rfl,rfl⟩:=he
   have hgr:=getD_reg hg (by simp)
   obtain ⟨_,h1,h2,h4⟩:=h.rs.blk r _ [] o (.box cells) hgr ⟨rfl,rfl,rfl⟩
   have hl:=lenIs_length hlen
   have hget : ∀ (s : Nat) x,((cells.drop j).take n)[s]? = some x → ∃ y,x.ok st.rg.length ρ y ∧ w.cell? ((ρ r []).at (j + s)) = some y:=fun s x hx => by
    have hs : s < n:=by
     rcases Nat.lt_or_ge s n with hs | hs
     ·exact hs
     ·rw [List.getElem?_eq_none (by rw [hl];exact hs)] at hx;cases hx
    rw [List.getElem?_take_of_lt hs,List.getElem?_drop] at hx
    exact h4 (j + s) x hx
   have hys : ∀ (m : Nat) (xs : List At),(∀ (s : Nat) x,xs[s]? = some x → ∃ y,x.ok st.rg.length ρ y ∧ w.cell? ((ρ r []).at (m + s)) = some y) →
     ∃ ys,okL (At.ok st.rg.length ρ) xs ys ∧ ∀ (s : Nat) y,ys[s]? = some y → w.cell? ((ρ r []).at (m + s)) = some y:=by
    intro m xs
    induction xs generalizing m with
    | nil => intro _;exact ⟨[],trivial,by simp⟩
    | cons x xs ih =>
      intro hh
      obtain ⟨y,hy,hc⟩:=hh 0 x (by simp)
      obtain ⟨ys,h1,h2⟩:=ih (m + 1) (fun s x hx => by
       obtain ⟨y,hy,hc⟩:=hh (s + 1) x (by simpa using hx)
       exact ⟨y,hy,by rw [show m + 1 + s = m + (s + 1) by omega];exact hc⟩)
      refine ⟨y :: ys,⟨hy,h1⟩,fun s z hz => ?_⟩
      cases s with
      | zero => simp at hz;subst hz;exact hc
      | succ s => rw [show m + (s + 1) = m + 1 + s by omega];exact h2 s z (by simpa using hz)
   obtain ⟨ys,h5,h6⟩:=hys j _ hget
   exact ⟨ys,h5,hl,fun s y hy => by simpa using h6 s y hy⟩
  ·cases he
 ·split at he
  ·rename_i q' B hd
   split at he
   ·rename_i hlen
    simp only [Option.some.injEq,Prod.mk.injEq] at he
    obtain ⟨rfl,rfl⟩:=he
    rw [obl_append] at hq
    obtain ⟨hr,hB⟩:=dn_sound h hd hq.1
    obtain ⟨ys,h1,h2⟩:=hB.cell i hq.2.1
    have h3:=Tup.lies_ats hr h1
    refine ⟨_,(h3.drop j).take n,lenIs_length hlen,fun s y hy => ?_⟩
    have hs : s < n:=by
     rcases Nat.lt_or_ge s n with hs | hs
     ·exact hs
     ·rw [List.getElem?_eq_none (by simp;omega)] at hy;cases hy
    rw [List.getElem?_take_of_lt hs,List.getElem?_drop] at hy
    rw [Nat.add_assoc]
    exact h2 (j + s) y hy
   ·cases he
  ·cases he
theorem RI.at_add (I : RI) (o n : Nat) : (I.at o).add n = I.at (o + n):=by
 simp only [RI.at,Addr.add_lit,Nat.add_assoc]
theorem info_of {t : TypeId} {n : Nat} (h : (P.info? t).map (·.size) = some n) : ∃ i,P.info? t = some i ∧ i.size = n:=by
 simpa using h
theorem run_size {t : TypeId} {n : Nat} (h : (P.info? t).map (·.size) = some n) : (sizeOf t).run P w = .ok n w:=by
 obtain ⟨i,h1,h2⟩:=info_of h
 simp [sizeOf,typeInfo,h1,h2]
theorem run_loadVar_agg {t : TypeId} {fields : Array Field} (hu : P.underlying t = some (.struct fields)) {n : Nat} (hs : (P.info? t).map (·.size) = some n) (ad : Addr) (ys : List Value)
  (hl : ys.length = n) (hc : ∀ (s : Nat) y,ys[s]? = some y → w.cell? (ad.add s) = some y) : (loadVar t ad).run P w = .ok (.agg ys.toArray) w:=by
 subst hl
 have:=run_loadCells_list (P:=P) w ad ys hc
 simp [loadVar,isAgg,run_underlying hu,run_size hs,this]
theorem run_loadVar_arr {t e : TypeId} {k : Nat} (hu : P.underlying t = some (.array k e)) {n : Nat} (hs : (P.info? t).map (·.size) = some n) (ad : Addr) (ys : List Value)
  (hl : ys.length = n) (hc : ∀ (s : Nat) y,ys[s]? = some y → w.cell? (ad.add s) = some y) : (loadVar t ad).run P w = .ok (.agg ys.toArray) w:=by
 subst hl
 have:=run_loadCells_list (P:=P) w ad ys hc
 simp [loadVar,isAgg,run_underlying hu,run_size hs,this]
theorem run_loadVar_one {t : TypeId} {d : TypeDesc} (hu : P.underlying t = some d) (hd : plainD d = true) (ad : Addr) (y : Value)
  (hc : w.cell? ad = some y) : (loadVar t ad).run P w = .ok y w:=by
 cases d <;> first | (simp [plainD] at hd;done) | simp [loadVar,isAgg,run_underlying hu,run_load,hc]
theorem cell_later {w1 : World} (hw : Below w.heap.size w w1) {p : Addr} {y : Value} (h : w.cell? p = some y) : w1.cell? p = some y:=by
 have hlt : p.block < w.heap.size:=by
  rcases Nat.lt_or_ge p.block w.heap.size with hl | hl
  ·exact hl
  ·simp [World.cell?,Array.getElem?_eq_none hl] at h
 rw [World.cell?_of_block (w:=w) (hw.block _ hlt)];exact h
theorem evLoad_sound (hE : EnvOk P Γ E) (h : Rel Γ M w0 ρ st vs a w) {t : TypeId} {ad x : Tm} {q : List Duty} {va : Value} (ha : ad.ok st.rg.length ρ va) (he : evLoad E st t ad = some (q,x)) (hq : obl q) :
  ∃ y,(∀ w1,Below w.heap.size w w1 → (Instr.loadAt t va).run P w1 = .ok y w1) ∧ x.ok st.rg.length ρ y:=by
 unfold evLoad at he
 split at he
 ·rename_i r π i j
  obtain ⟨hr,rfl⟩:=ha
  have hty:=hE.ty t
  have one : ∀ {d : TypeDesc},P.underlying t = some d → plainD d = true →
    (match cellsAt r (st.rg.getD r .dead) π i j 1 with | some (q,[x]) => some (q,Tm.a x) | _ => none) = some (q,x) →
    ∃ y,(∀ w1,Below w.heap.size w w1 → (Instr.loadAt t (.pointer (some ((ρ r π).at (i * (ρ r π).m + j))))).run P w1 = .ok y w1) ∧ x.ok st.rg.length ρ y:=by
   intro d hu hd he
   split at he
   ·rename_i q' x' hc
    simp only [Option.some.injEq,Prod.mk.injEq] at he
    obtain ⟨rfl,rfl⟩:=he
    obtain ⟨ys,h1,h2,h3⟩:=cellsAt_sound h hc hq
    match ys,h1 with
    | [y],h1 =>
      have:=h3 0 y rfl
      exact ⟨y,fun w1 hw => by simpa [Instr.loadAt,Instr.sureAddr] using run_loadVar_one hu hd _ y (cell_later hw this),h1.1⟩
   ·cases he
  split at he
  ·rename_i fs n htt
   rw [htt] at hty
   obtain ⟨⟨fields,hu,_⟩,hs⟩:=hty
   split at he
   ·rename_i q' l hc
    simp only [Option.some.injEq,Prod.mk.injEq] at he
    obtain ⟨rfl,rfl⟩:=he
    obtain ⟨ys,h1,h2,h3⟩:=cellsAt_sound h hc hq
    refine ⟨.agg ys.toArray,fun w1 hw => ?_,ys,rfl,h1⟩
    have:=run_loadVar_agg (w:=w1) hu hs ((ρ r π).at (i * (ρ r π).m + j)) ys (by rw [← h1.length,h2]) (fun s y hy => by rw [RI.at_add];exact cell_later hw (h3 s y hy))
    simpa [Instr.loadAt,Instr.sureAddr] using this
   ·cases he
  ·rename_i e m n htt
   rw [htt] at hty
   obtain ⟨hu,_,hs⟩:=hty
   split at he
   ·rename_i q' l hc
    simp only [Option.some.injEq,Prod.mk.injEq] at he
    obtain ⟨rfl,rfl⟩:=he
    obtain ⟨ys,h1,h2,h3⟩:=cellsAt_sound h hc hq
    refine ⟨.agg ys.toArray,fun w1 hw => ?_,ys,rfl,h1⟩
    have:=run_loadVar_arr (w:=w1) hu hs ((ρ r π).at (i * (ρ r π).m + j)) ys (by rw [← h1.length,h2]) (fun s y hy => by rw [RI.at_add];exact cell_later hw (h3 s y hy))
    simpa [Instr.loadAt,Instr.sureAddr] using this
   ·cases he
  ·cases he
  ·rename_i hn1 hn3 hn2
   cases htt : E.ty t with
   | st fs n => exact absurd htt (hn1 fs n)
   | ar e m n => exact absurd htt (hn3 e m n)
   | other => exact absurd htt hn2
   | int k => rw [htt] at hty;exact one hty.1 rfl he
   | bool => rw [htt] at hty;exact one hty.1 rfl he
   | str => rw [htt] at hty;exact one hty.1 rfl he
   | sl e m => rw [htt] at hty;exact one hty.1 rfl he
   | map k e => rw [htt] at hty;exact one hty.1 rfl he
   | word => rw [htt] at hty;obtain ⟨⟨d,hu,hd⟩,_⟩:=hty;exact one hu hd he
 ·cases he
theorem places_get : ∀ (fields : List Field) (fs : List (Nat × Nat)),fields.mapM (fun f => (P.info? f.type).map fun i => (f.offset,i.size)) = some fs →
  ∀ (f : Nat) off size,fs[f]? = some (off,size) → ∃ fd,fields[f]? = some fd ∧ fd.offset = off ∧ (P.info? fd.type).map (·.size) = some size
 | [],fs,h,f,off,size,hf => by simp at h;subst h;simp at hf
 | fd :: fields,fs,h,f,off,size,hf => by
   simp only [List.mapM_cons,Option.bind_eq_bind,Option.pure_def] at h
   cases hi : P.info? fd.type with
   | none => simp [hi] at h
   | some i =>
     cases hr : fields.mapM (fun f => (P.info? f.type).map fun i => (f.offset,i.size)) with
     | none => simp [hi,hr] at h
     | some rest =>
       simp [hi,hr] at h
       subst h
       cases f with
       | zero =>
         simp at hf
         exact ⟨fd,by simp,hf.1,by simp [hi,hf.2]⟩
       | succ f =>
         obtain ⟨fd',h1,h2⟩:=places_get fields rest hr f off size (by simpa using hf)
         exact ⟨fd',by simpa using h1,h2⟩
theorem run_fieldAt_st {s : TypeId} {fields : Array Field} (hu : P.underlying s = some (.struct fields)) {f : Nat} {fd : Field} (hf : fields[f]? = some fd) {size : Nat} (hs : (P.info? fd.type).map (·.size) = some (size + 1)) (ad : Addr) :
  (Instr.fieldAt s (.pointer (some ad)) f).run P w = .ok (.pointer (some (ad.add fd.offset))) w:=by
 simp [Instr.fieldAt,run_underlying hu,hf,Instr.sureAddr,fieldPlace,run_size hs]
theorem okL_caps : ∀ {os : List Operand} {l : List Nat},Rel Γ M w0 ρ st vs a w → evCaps st os = some l → (∀ r ∈ l,r < st.rg.length) ∧ os.map a.eval = l.map (fun r => Value.pointer (some ((ρ r []).at 0)))
 | [],l,_,he => by simp [evCaps] at he;subst he;simp
 | o :: os,l,h,he => by
   simp only [evCaps] at he
   split at he
   ·rename_i r l' h1 h2
    simp only [Option.some.injEq] at he
    subst he
    obtain ⟨h3,h4⟩:=okL_caps h h2
    obtain ⟨hr,hp⟩:=ev_sound h h1
    refine ⟨fun r' hr' => ?_,?_⟩
    ·rcases List.mem_cons.1 hr' with rfl | hr'
     ·exact hr
     ·exact h3 r' hr'
    ·simp only [List.map_cons,h4,hp]
     simp
   ·cases he
end
end Go.Sy
end
