/-
  Texts of the claims: Sya1z. No condition: lemmas and contracts.
-/
import Derived.WalkKit
import Derived.Deep.Quiet
import Derived.StillTail
import Derived.Laws.BytesArg
import Derived.Laws.Tables
import Derived.Laws.Small
import Derived.Laws.IdiomCopy
import Derived.MapKept
import Derived.Maps.RangeRun
import Derived.Laws.StructEq
set_option linter.all false
set_option maxRecDepth 100000
set_option maxHeartbeats 40000000
section
namespace Go.Sy
open Go
universe u
structure aa where
 p:Prop
 b:Bool
 h:b=true<->p
def aa.of (p:Prop) [d:Decidable p]:aa:=⟨p,@Decidable.decide p d,decide_eq_true_iff⟩
abbrev Path:=List (Nat×Nat)
inductive At where
 |any
 |un
 |v (x:Value)
 |tt
 |ff
 |p (r:Nat) (π:Path) (i j:Nat)
 |sl (r:Nat) (π:Path) (lo n:Nat)
 |z
 |fn (f:FuncId) (aBd:List Nat)
 |mp (r:Nat)
 |it (r:Nat)
 |yl (r:Nat)
 |err
inductive C1 where
 |a (x:At)
 |agg (l:List At)
inductive Tm where
 |a (x:At)
 |agg (l:List At)
 |bF (l:List C1)
def C1.tm:C1->Tm
 | .a x=> .a x
 | .agg l=> .agg l
inductive CK where
 |int (k:IntKind)
 |bool
 |str
 |sl (e:TypeId) (tg:List CK)
mutual
def CK.ty:CK->Type
 | .int _=>Int
 | .bool=>Bool
 | .str=>ByteArray
 | .sl _ tg=>List (ai tg)
def ai:List CK->Type
 |[]=>Unit
 |[c]=>c.ty
 |c::c'::cs=>c.ty×ai (c'::cs)
end
def CK.flat:CK->Bool
 | .sl _ _=>false
 |_=>true
def aaa:List CK->Bool
 |[]=>true
 |c::cs=>match c.flat with|true=>aaa cs|false=>false
def sameKind:IntKind->IntKind->Bool
 | .i8,.i8| .i16,.i16| .i32,.i32| .i64,.i64| .u8,.u8| .u16,.u16| .u32,.u32| .u64,.u64=>true
 |_,_=>false
def CK.of:(c:CK)->Value->Option c.ty
 | .int k,.int k' n=>(match sameKind k k' with|true=>some n|false=>none)
 | .bool,.bool b=>some b
 | .str,.string s=>some s
 |_,_=>none
def CK.d:(c:CK)->c.ty
 | .int _=>(0:Int)
 | .bool=>false
 | .str=>ByteArray.empty
 | .sl _ tg=>([]:List (ai tg))
def ai.d:(tg:List CK)->ai tg
 |[]=>()
 |[c]=>c.d
 |c::c'::cs=>(c.d,ai.d (c'::cs))
structure Ar where
 te:TypeId
 tg:List CK
 xs:List (ai tg)
def CK.at (r:Nat) (π:Path) (i j:Nat):(c:CK)->c.ty->At
 | .int k,n=> .v (.int k n)
 | .bool,b=> .v (.bool b)
 | .str,s=> .v (.string s)
 | .sl _ _,(ys:List _)=> .sl r ((i,j)::π) 0 ys.length
def ai.ats (r:Nat) (π:Path) (i:Nat):Nat->(tg:List CK)->ai tg->List At
 |_,[],_=>[]
 |j,[c],x=>[c.at r π i j x]
 |j,c::c'::cs,x=>c.at r π i j x.1::ai.ats r π i (j+1) (c'::cs) x.2
def CK.sub:(c:CK)->c.ty->Option Ar
 | .sl e tg,ys=>some ⟨e,tg,ys⟩
 |_,_=>none
def ai.sub:(tg:List CK)->ai tg->Nat->Option Ar
 |[],_,_=>none
 |[c],x,0=>c.sub x
 |[_],_,_+1=>none
 |c::_::_,x,0=>c.sub x.1
 |_::c'::cs,x,j+1=>ai.sub (c'::cs) x.2 j
def Ar.get (A:Ar) (i:Nat):ai A.tg:=A.xs.getD i (ai.d A.tg)
def Ar.dn (A:Ar):Path->Option (List aa×Ar)
 |[]=>some ([],A)
 |(i,j)::π=>
  match A.dn π with
  |some (q,B)=>(match ai.sub B.tg (B.get i) j with|some C=>some (q++[(aa.of (i<B.xs.length))],C)|none=>none)
  |none=>none
/-! ### Kinds compared -/
def NR:(k k':IntKind)->Option (PLift (k=k'))
 | .i8,.i8=>some ⟨rfl⟩| .i16,.i16=>some ⟨rfl⟩| .i32,.i32=>some ⟨rfl⟩| .i64,.i64=>some ⟨rfl⟩
 | .u8,.u8=>some ⟨rfl⟩| .u16,.u16=>some ⟨rfl⟩| .u32,.u32=>some ⟨rfl⟩| .u64,.u64=>some ⟨rfl⟩
 |_,_=>none
def pF:(m n:Nat)->Option (PLift (m=n))
 |m,n=>match h:Nat.beq m n with|true=>some ⟨Nat.eq_of_beq_eq_true h⟩|false=>none
mutual
def Mr:(c c':CK)->Option (PLift (c=c'))
 | .bool,.bool=>some ⟨rfl⟩
 | .str,.str=>some ⟨rfl⟩
 | .int k,.int k'=>(match NR k k' with|some h=>some ⟨congrArg CK.int h.down⟩|none=>none)
 | .sl e tg,.sl e' bX=>(match pF e e',aau tg bX with|some h,some h'=>some ⟨by rw[h.down,h'.down]⟩|_,_=>none)
 |_,_=>none
def aau:(l l':List CK)->Option (PLift (l=l'))
 |[],[]=>some ⟨rfl⟩
 |c::l,c'::l'=>(match Mr c c',aau l l' with|some h,some h'=>some ⟨by rw[h.down,h'.down]⟩|_,_=>none)
 |_,_=>none
end
def jz {tg bX:List CK} (h:tg=bX) (xs:List (ai tg)):List (ai bX):=h▸xs
def CK.cP:(c:CK)->Ar->Option c.ty
 | .sl e tg,C=>(match pF C.te e,aau C.tg tg with|some _,some h=>some (jz h.down C.xs)|_,_=>none)
 |_,_=>none
def ai.cP:(tg:List CK)->ai tg->Nat->Ar->Option (ai tg)
 |[],_,_,_=>none
 |[c],_,0,C=>c.cP C
 |[_],_,_+1,_=>none
 |c::c'::cs,x,0,C=>(match c.cP C with|some y=>some ((y,x.2):c.ty×ai (c'::cs))|none=>none)
 |c::c'::cs,x,j+1,C=>(match ai.cP (c'::cs) x.2 j C with|some y=>some ((x.1,y):c.ty×ai (c'::cs))|none=>none)
def Ar.up (A:Ar):Path->Ar->Option Ar
 |[],B=>(match pF B.te A.te,aau B.tg A.tg with|some _,some h=>some ⟨A.te,A.tg,jz h.down B.xs⟩|_,_=>none)
 |(i,j)::π,C=>
  match A.dn π with
  |some (_,B)=>(match ai.cP B.tg (B.get i) j C with|some a=>A.up π ⟨B.te,B.tg,B.xs.set i a⟩|none=>none)
  |none=>none
inductive Tr where
 |nil
 |node (x:Tm) (l r:Tr)
def Tr.get:Tr->Nat->Tm
 | .nil,_=> .a .any
 | .node x l r,i=>match Nat.beq i 0 with
   |true=>x
   |false=>(match Nat.beq (i%2) 1 with|true=>l.get (i / 2)|false=>r.get (i / 2-1))
def Tr.aBS (t:Tr) (i:Nat) (x:Tm) (k:Tr->Prop):Prop:=
 Tr.rec (motive:=fun _=>Nat->(Tr->Prop)->Prop) (fun _ k=>k .nil)
  (fun y l r fl fr i k=>match Nat.beq i 0 with
    |true=>k (.node x l r)
    |false=>(match Nat.beq (i%2) 1 with|true=>fl (i / 2) (fun l=>k (.node y l r))|false=>fr (i / 2-1) (fun r=>k (.node y l r)))) t i k
def Tr.put:Tr->Nat->Tm->Tr
 | .nil,_,_=> .nil
 | .node y l r,i,x=>match Nat.beq i 0 with
   |true=> .node x l r
   |false=>(match Nat.beq (i%2) 1 with|true=> .node y (l.put (i / 2) x) r|false=> .node y l (r.put (i / 2-1) x))
structure Sl where
 n:Nat
 t:Tr
def Sl.get (s:Sl) (i:Nat):Tm:=s.t.get i
inductive az where
 |dead
 |box (own:Bool) (cells:List At)
 |arr (te:TypeId) (tg:List CK) (xs:List (ai tg)) (own akl:Bool)
 |map (t:TypeId) (k:IntKind) (c:CK) (es:List (Int×c.ty)) (own:Bool)
 |bH (t:TypeId) (kk:List CK) (e:TypeId) (tg:List CK) (es:List (ai kk×List (ai tg))) (own akl:Bool)
 |iter (m:Option Nat) (n:Nat) (seen:List Nat)
 |lp (b:Nat) (s:Sl) (L:Loop) (q:LoopState) (j:Option Code)
structure St where
 tm:Sl
 fr:List Sl
 rg:List az
inductive Ty where
 |int (k:IntKind)
 |bool
 |str
 |st (fs:List (Nat×Nat)) (n:Nat)
 |sl (e:TypeId) (m:Nat)
 |ar (e:TypeId) (m n:Nat)
 |map (k e:TypeId)
 |word
 |other
structure Ob (p:Prop):Prop where
 h:p
def aBP (c:Bool) (l:List aa) (p:Prop):Prop:=
 List.rec (motive:=fun _=>Prop) p (fun q _ ih=>match c with|true=>(match q.b with|true=>ih|false=>False)|false=>Ob q.p/\ih) l
structure cM where
 rg:List az
 tm:Tm
inductive au where
 |fn (F:List Tm->List az->Option (List aa×Tm))
 |new (C:List Tm->List az->(cM->Prop)->Prop)
 |rel (C:List Tm->List az->(List (Nat×az)->cM->Prop)->Prop)
def look {α:Type u}:List (Nat×α)->Nat->Option α
 |[],_=>none
 |(g,c)::l,f=>match Nat.beq g f with|true=>some c|false=>look l f
inductive OT where
 |fin
 |alt (i:Nat) (t more:OT)
 |take (i:Nat) (t:OT)
structure Body where
 n:Nat
 code:Code
 rs:List ResultVar
structure Env where
 ty:TypeId->Ty
 zero:TypeId->Option (List At)
 alp:TypeId->Option (List Nat)
 sc:TypeId->Option CK:=fun _=>none
 kd:TypeId->Option (List CK)
 ct:FuncId->Option au
 inl:FuncId->Option Body:=fun _=>none
 exact:Bool
 aN:Bool:=false
 cut:Nat->Bool:=fun _=>false
 tree:Nat->Option OT:=fun _=>none
 ord:Nat->Option (List Nat):=fun _=>none
 htr:Nat->Option (Nat×OT):=fun _=>none
 lf:TypeId->Nat->Bool:=fun _ _=>false
 str:Nat->Option (List Nat×OT):=fun _=>none
 un:Nat:=0
 cv:Bool:=false
 aht:TypeId->Bool:=fun _=>false
/-! ### Lists handed on written out -/
def Og {α:Type u} (l:List α) (i:Nat) (x:α) (k:List α->Prop):Prop:=
 List.rec (motive:=fun _=>Nat->(List α->Prop)->Prop) (fun _ k=>k [])
  (fun a l ih i k=>match i with
    |0=>k (x::l)
    |i+1=>ih i (fun l=>k (a::l))) l i k
def Mk {α:Type u} (l m:List α) (k:List α->Prop):Prop:=
 List.rec (motive:=fun _=>(List α->Prop)->Prop) (fun k=>k m) (fun a _ ih k=>ih (fun l=>k (a::l))) l k
def aBK {α:Type u} (l:List α) (k:Nat->Prop):Prop:=
 List.rec (motive:=fun _=>Nat->(Nat->Prop)->Prop) (fun n k=>k n) (fun _ _ ih n k=>ih (Nat.succ n) k) l 0 k
def fy {α:Type u} (c:Bool) (l:List α) (k:Nat->Prop):Prop:=match c with|true=>Nat.rec (motive:=fun _=>Prop) (k 0) (fun p _=>k (Nat.succ p)) l.length|false=>aBK l k
def fD {α β:Type u} (f:α->(β->Prop)->Prop) (l:List α) (k:List β->Prop):Prop:=
 List.rec (motive:=fun _=>(List β->Prop)->Prop) (fun k=>k []) (fun x _ ih k=>f x (fun y=>ih (fun l=>k (y::l)))) l k
def GZ (x:Value) (k:Value->Prop):Prop:=
 match x with
 | .bool b=>k (.bool b)
 | .int i n=>k (.int i n)
 |x=>k x
def qH (x:At) (k:At->Prop):Prop:=
 match x with
 | .v x=>GZ x (fun x=>k (.v x))
 |x=>k x
def si (l:List At) (k:List At->Prop):Prop:=fD qH l k
def Aw (x:C1) (k:C1->Prop):Prop:=
 match x with
 | .a x=>qH x (fun x=>k (.a x))
 | .agg l=>si l (fun l=>k (.agg l))
def agI (x:Tm) (k:Tm->Prop):Prop:=
 match x with
 | .a x=>qH x (fun x=>k (.a x))
 | .agg l=>si l (fun l=>k (.agg l))
 | .bF l=>fD Aw l (fun l=>k (.bF l))
def ou (g:az) (k:az->Prop):Prop:=
 match g with
 | .box o l=>si l (fun l=>k (.box o l))
 |g=>k g
def nW (m:Nat) (k:Nat->Prop):Prop:=Nat.rec (motive:=fun _=>Prop) (k 0) (fun p _=>k (Nat.succ p)) m
def E8 (n:Int) (k:Int->Prop):Prop:=
 match n with
 | .ofNat m=>nW m (fun m=>k (.ofNat m))
 | .negSucc m=>nW m (fun m=>k (.negSucc m))
def rX (b:Bool) (k:Bool->Prop):Prop:=match b with|true=>k true|false=>k false
def byteOf (l:List Nat):ByteArray:=⟨(l.map UInt8.ofNat).toArray⟩
def uw (s:ByteArray) (k:ByteArray->Prop):Prop:=fD nW (s.data.toList.map UInt8.toNat) (fun l=>k (byteOf l))
def Fk (c:Bool) (x:Value) (k:Value->Prop):Prop:=
 match c,x with
 |true,.bool b=>rX b (fun b=>k (.bool b))
 |true,.int i n=>E8 n (fun n=>k (.int i n))
 |true,.string s=>uw s (fun s=>k (.string s))
 |false,.bool b=>∀ d,b=d->k (.bool d)
 |false,.int i n=>∀ m,n=m->k (.int i m)
 |false,.string s=>∀ t,s=t->k (.string t)
 |_,x=>k x
def sA (c:Bool) (x:At) (k:At->Prop):Prop:=
 match x with
 | .v x=>Fk c x (fun x=>k (.v x))
 | .sl r π lo n=>(match c with|true=>nW lo (fun lo=>nW n (fun n=>k (.sl r π lo n)))|false=>k (.sl r π lo n))
 | .p r π i j=>(match c with|true=>nW i (fun i=>nW j (fun j=>k (.p r π i j)))|false=>k (.p r π i j))
 |x=>k x
def Fj (c:Bool) (x:C1) (k:C1->Prop):Prop:=
 match x with
 | .a x=>sA c x (fun x=>k (.a x))
 | .agg l=>fD (sA c) l (fun l=>k (.agg l))
def aBN (c:Bool) (x:Tm) (k:Tm->Prop):Prop:=
 match x with
 | .a x=>sA c x (fun x=>k (.a x))
 | .agg l=>fD (sA c) l (fun l=>k (.agg l))
 | .bF l=>fD (Fj c) l (fun l=>k (.bF l))
/-! ### Maps' entries -/
def aO {α:Type}:List (Int×α)->Int->α->α
 |[],_,d=>d
 |(k,v)::es,n,d=>match k==n with|true=>v|false=>aO es n d
def wO {α:Type}:List (Int×α)->Int->Bool
 |[],_=>false
 |(k,_)::es,n=>match k==n with|true=>true|false=>wO es n
def dF {α:Type}:List (Int×α)->Int->α->List (Int×α)
 |[],n,v=>[(n,v)]
 |(k,w)::es,n,v=>match k==n with|true=>(n,v)::es|false=>(k,w)::dF es n v
/-! ### A state's parts -/
def Sl.put (s:Sl) (d:Nat) (x:Tm):Sl:=match Nat.blt d s.n with|true=>⟨s.n,s.t.put d x⟩|false=>s
def St.put (st:St) (d:Option Nat) (x:Tm):St:=
 match d with
 |some d=>{st with tm:=st.tm.put d x}
 |none=>st
def St.aBS (st:St) (d:Option Nat) (x:Tm) (k:St->Prop):Prop:=
 match st,d with
 |⟨⟨n,t⟩,fr,rg⟩,some d=>(match Nat.blt d n with|true=>agI x (fun x=>t.aBS d x (fun t=>k ⟨⟨n,t⟩,fr,rg⟩))|false=>False)
 |⟨tm,fr,rg⟩,none=>k ⟨tm,fr,rg⟩
def Pe (st:St) (o:Oper):Bool:=
 match o.op with
 | .binOp op _ _ _ _=>(match op with| .add| .sub| .mul| .quo| .rem| .shl| .shr| .and| .or=>true|_=>false)
 | .unOp .neg _ _=>true
 | .convert .. =>true
 | .call .. =>true
 | .lookup .. =>true
 | .load _ (.tmp t)=>
   (match st.tm.get t with
    | .a (.p r _ _ _)=>(match st.rg.getD r .dead with| .arr .. =>true|_=>false)
    |_=>false)
 |_=>false
def St.iF (E:Env) (st:St) (o:Oper) (x:Tm) (k:St->Prop):Prop:=
 match E.aN with
 |true=>aBN true x (fun x=>st.aBS o.dst x k)
 |false=>(match Pe st o with|true=>aBN false x (fun x=>st.aBS o.dst x k)|false=>st.aBS o.dst x k)
mutual
def xB:(c:CK)->c.ty->(c.ty->Prop)->Prop
 | .int _,(n:Int),k=>E8 n k
 | .bool,(b:Bool),k=>rX b k
 | .str,(s:ByteArray),k=>uw s k
 | .sl _ tg,(xs:List (ai tg)),k=>fD (uf tg) xs k
def uf:(tg:List CK)->ai tg->(ai tg->Prop)->Prop
 |[],_,k=>k ()
 |[c],x,k=>xB c x k
 |c::c'::cs,x,k=>xB c x.1 (fun y=>uf (c'::cs) x.2 (fun z=>k (y,z)))
end
def IZ (cc:CK) (p:Int×cc.ty) (k:Int×cc.ty->Prop):Prop:=E8 p.1 (fun n=>xB cc p.2 (fun v=>k (n,v)))
def pE (c:Bool) (g:az) (k:az->Prop):Prop:=
 match c,g with
 |true,.map t kk cc es o=>rX o (fun o=>fD (IZ cc) es (fun fs=>k (.map t kk cc fs o)))
 |false,.map t kk cc es o=>∀ fs,es=fs->k (.map t kk cc fs o)
 |false,.bH t kk e tg es o i=>∀ fs,es=fs->k (.bH t kk e tg fs o i)
 |true,.arr te tg xs o i=>rX o (fun o=>rX i (fun i=>fD (uf tg) xs (fun ys=>k (.arr te tg ys o i))))
 |false,.arr te tg xs o i=>∀ ys,xs=ys->k (.arr te tg ys o i)
 |_,g=>k g
def St.dN (st:St) (gs:List az) (k:St->Prop):Prop:=
 match st with
 |⟨tm,fr,rg⟩=>fD ou gs (fun gs=>Mk rg gs (fun rg=>k ⟨tm,fr,rg⟩))
def St.eP (st:St) (r:Nat) (g:az) (k:St->Prop):Prop:=
 match st with
 |⟨tm,fr,rg⟩=>ou g (fun g=>Og rg r g (fun rg=>k ⟨tm,fr,rg⟩))
def Dl:Value->Option Tm
 | .bool true=>some (.a .tt)
 | .bool false=>some (.a .ff)
 | .agg _=>none
 | .tuple _=>none
 |x=>some (.a (.v x))
def ev (st:St):Operand->Option Tm
 | .tmp t=>some (st.tm.get t)
 | .const x=>Dl x
 | .func f=>some (.a (.fn f []))
 | .global g=>some (.a (.v (.pointer (some ⟨g,0,none⟩))))
def At.one:At->Bool
 | .any=>false
 | .un=>false
 |_=>true
def bZ {α:Type u} (f:α->Bool):List α->Bool
 |[]=>true
 |x::l=>match f x with|true=>bZ f l|false=>false
def iu:Tm->Option (List At)
 | .a x=>(match x.one with|true=>some [x]|false=>none)
 | .agg l=>(match bZ At.one l with|true=>some l|false=>none)
 | .bF _=>none
def ak:IntKind->Int->Prop
 | .i8,n=>-128<=n/\n<=127
 | .i16,n=>-32768<=n/\n<=32767
 | .i32,n=>-2147483648<=n/\n<=2147483647
 | .i64,n=>-9223372036854775808<=n/\n<=9223372036854775807
 | .u8,n=>0<=n/\n<=255
 | .u16,n=>0<=n/\n<=65535
 | .u32,n=>0<=n/\n<=4294967295
 | .u64,n=>0<=n/\n<=18446744073709551615
def NI:IntKind->Int->Bool
 | .i8,n=>decide (-128<=n/\n<=127)
 | .i16,n=>decide (-32768<=n/\n<=32767)
 | .i32,n=>decide (-2147483648<=n/\n<=2147483647)
 | .i64,n=>decide (-9223372036854775808<=n/\n<=9223372036854775807)
 | .u8,n=>decide (0<=n/\n<=255)
 | .u16,n=>decide (0<=n/\n<=65535)
 | .u32,n=>decide (0<=n/\n<=4294967295)
 | .u64,n=>decide (0<=n/\n<=18446744073709551615)
theorem Jf (k:IntKind) (n:Int):NI k n=true<->ak k n:=by cases k<;>exact decide_eq_true_iff
def ag (k:IntKind) (n:Int):aa:=⟨ak k n,NI k n,Jf k n⟩
def wrapped (E:Env) (pre:List aa) (k:IntKind) (n:Int):Option (List aa×Tm):=
 match E.exact with
 |true=>some (pre++[ag k n],.a (.v (.int k n)))
 |false=>some (pre,.a (.v (.int k (k.wrap n))))
def bl (b:Bool):Tm:=.a (.v (.bool b))
def ang (E:Env) (op:BinOp) (k:IntKind) (a b:Int):Option (List aa×Tm):=
 match op with
 | .shl=>wrapped E [(aa.of (0<=b)),(aa.of (b<=(k.bits:Nat)))] k (a*2^b.toNat)
 | .shr=>some ([(aa.of (0<=b)),(aa.of (b<=(k.bits:Nat)))],.a (.v (.int k (a / 2^b.toNat))))
 |_=>none
def uV (E:Env) (op:BinOp) (k:IntKind) (a b:Int):Option (List aa×Tm):=
 match op with
 | .add=>wrapped E [] k (a+b)
 | .sub=>wrapped E [] k (a-b)
 | .mul=>wrapped E [] k (a*b)
 | .quo=>wrapped E [(aa.of (b≠0))] k (a.tdiv b)
 | .rem=>some ([(aa.of (b≠0))],.a (.v (.int k (a.tmod b))))
 | .eql=>some ([],bl (a==b))
 | .neq=>some ([],bl (a !=b))
 | .lss=>some ([],bl (decide (a<b)))
 | .leq=>some ([],bl (decide (a<=b)))
 | .gtr=>some ([],bl (decide (a>b)))
 | .geq=>some ([],bl (decide (a>=b)))
 | .shl=>ang E .shl k a b
 | .shr=>ang E .shr k a b
 | .and=>some ([(aa.of (0<=a)),(aa.of (0<=b)),ag k a,ag k b],.a (.v (.int k ((a.toNat &&& b.toNat:Nat):Int))))
 | .or=>some ([(aa.of (0<=a)),(aa.of (0<=b)),ag k a,ag k b],.a (.v (.int k ((a.toNat ||| b.toNat:Nat):Int))))
 |_=>none
def iV:At->Option Bool
 | .tt=>some true
 | .ff=>some false
 | .v (.bool b)=>some b
 |_=>none
def qj:Tm->Option Bool
 | .a x=>iV x
 |_=>none
def fg {α:Type u}:List α->Nat->Bool
 |[],0=>true
 |_::l,n+1=>fg l n
 |_,_=>false
def zU (x y:At):Option Bool:=
 match x,y with
 | .v (.int k a),.v (.int k' b)=>(match sameKind k k' with|true=>some (a==b)|false=>none)
 | .v (.string s),.v (.string t)=>some (s.toList==t.toList)
 |x,y=>(match iV x,iV y with|some a,some b=>some (a==b)|_,_=>none)
def kg:List At->List At->Option Bool
 |[],[]=>some true
 |x::xs,y::ys=>
  (match zU x y,kg xs ys with
   |some e,some e'=>some (e&&e')
   |_,_=>none)
 |_,_=>none
def jN:At->Nat
 | .v (.int _ _)=>0
 | .v (.bool _)=>1
 | .v (.string _)=>2
 | .tt=>1
 | .ff=>1
 |_=>3
def jc:List Nat->List At->Bool
 |[],[]=>true
 |k::ks,x::xs=>(match Nat.beq k (jN x)with|true=>jc ks xs|false=>false)
 |_,_=>false
def ai1:At->Option Bool
 | .v .nilIface=>some true
 | .err=>some false
 |_=>none
def uR (E:Env) (op:BinOp) (t:TypeId) (x y:Tm):Option (List aa×Tm):=
 match x,y with
 | .a (.v (.int k a)),.a (.v (.int k' b))=>match sameKind k k' with|true=>uV E op k a b|false=>ang E op k a b
 | .a (.v (.string x)),.a (.v (.string y))=>
   (match op with
    | .add=>some ([(aa.of ((x.size+y.size:Nat)<=9223372036854775807))],.a (.v (.string (x++y))))
    | .eql=>some ([],bl (x.toList==y.toList))
    | .neq=>some ([],bl (!(x.toList==y.toList)))
    |_=>none)
 | .agg l,.agg l'=>
   match E.alp t,kg l l' with
   |some n,some e=>(match op,jc n l with| .eql,true=>some ([],bl e)| .neq,true=>some ([],bl (!e))|_,_=>none)
   |_,_=>none
 |x,y=>
  match E.ty t,qj x,qj y with
  | .bool,some a,some b=>(match op with| .eql=>some ([],bl (a==b))| .neq=>some ([],bl (!(a==b)))|_=>none)
  |_,_,_=>none
def aim:Operand->Bool
 | .const .nilIface=>true
 |_=>false
def aiC (E:Env) (op:BinOp) (t:TypeId) (x:Tm):Option (List aa×Tm):=
 match E.aht t,x with
 |true,.a x=>
  (match ai1 x,op with
   |some true,.eql=>some ([],.a .tt)
   |some true,.neq=>some ([],.a .ff)
   |some false,.eql=>some ([],.a .ff)
   |some false,.neq=>some ([],.a .tt)
   |_,_=>none)
 |_,_=>none
def Al (E:Env) (op:UnOp) (x:Tm):Option (List aa×Tm):=
 match op,x with
 | .neg,.a (.v (.int k a))=>wrapped E [] k (0-a)
 | .not,.a .tt=>some ([],.a .ff)
 | .not,.a .ff=>some ([],.a .tt)
 | .not,.a (.v (.bool b))=>some ([],bl (!b))
 |_,_=>none
def Ae (E:Env) (dst:TypeId) (x:Tm):Option (List aa×Tm):=
 match E.ty dst,x with
 | .int k',.a (.v (.int _ a))=>(match E.cv with|true=>some ([],.a (.v (.int k' (k'.wrap a))))|false=>wrapped E [] k' a)
 |_,_=>none
/-! ### Reading -/
def az.dn (g:az) (π:Path):Option (List aa×Ar):=
 match g with
 | .arr te tg xs _ _=>Ar.dn ⟨te,tg,xs⟩ π
 | .bH _ kk e tg es _ _=>
   (match π,aaa tg with
    |[(j,0)],true=>some ([(aa.of (j<es.length))],⟨e,tg,(es.getD j (ai.d kk,[])).2⟩)
    |_,_=>none)
 |_=>none
def ahD (E:Env) (st:St) (e dst:TypeId) (r:Nat) (π:Path) (lo n:Nat):Option (List aa×Tm):=
 match E.ty e,E.ty dst,(st.rg.getD r .dead).dn π with
 | .int .u8,.str,some (q,⟨_,[.int .u8],xs⟩)=>some (q++[(aa.of (lo+n<=xs.length))],.a (.v (.string (strOfNums ((xs.drop lo).take n)))))
 |_,_,_=>none
def Z3 (r:Nat) (g:az) (π:Path) (i j n:Nat):Option (List aa×List At):=
 match g with
 | .box _ cells=>
   (match π,i,fg ((cells.drop j).take n) n with
    |[],0,true=>some ([],(cells.drop j).take n)
    |_,_,_=>none)
 |g=>
  (match g.dn π with
   |some (q,B)=>
    (match fg (((ai.ats r π i 0 B.tg (B.get i)).drop j).take n) n with
     |true=>some (q++[(aa.of (i<B.xs.length))],((ai.ats r π i 0 B.tg (B.get i)).drop j).take n)
     |false=>none)
   |none=>none)
def qw (E:Env) (st:St) (t:TypeId) (addr:Tm):Option (List aa×Tm):=
 match addr with
 | .a (.p r π i j)=>
   match E.ty t with
   | .st _ n=>(match Z3 r (st.rg.getD r .dead) π i j n with|some (q,l)=>some (q,.agg l)|none=>none)
   | .ar _ m n=>(match Z3 r (st.rg.getD r .dead) π i j (n*m)with|some (q,l)=>some (q,.agg l)|none=>none)
   | .other=>none
   |_=>(match Z3 r (st.rg.getD r .dead) π i j 1 with|some (q,[x])=>some (q,.a x)|_=>none)
 |_=>none
def Z9 (cells:List At) (off:Nat):List At->List At
 |[]=>cells
 |x::xs=>Z9 (cells.set off x) (off+1) xs
def oq (fs:List (Nat×Nat)) (st:St):List (Nat×Operand)->List At->Option (List At)
 |[],cells=>some cells
 |(i,o)::rest,cells=>
  match fs[i]?,ev st o with
  |some (off,size),some x=>
   (match iu x with
    |some l=>
     (match fg l size,Nat.ble (off+size) cells.length with
      |true,true=>oq fs st rest (Z9 cells off l)
      |_,_=>none)
    |none=>none)
  |_,_=>none
def mF (m:Nat) (st:St):List (Nat×Operand)->List At->Option (List At)
 |[],cells=>some cells
 |(i,o)::rest,cells=>
  match ev st o with
  |some x=>
   (match iu x with
    |some l=>
     (match fg l m,Nat.ble (i*m+m) cells.length with
      |true,true=>mF m st rest (Z9 cells (i*m) l)
      |_,_=>none)
    |none=>none)
  |none=>none
def qv (st:St):List Operand->Option (List Nat)
 |[]=>some []
 |o::os=>
  match ev st o,qv st os with
  |some (.a (.p r [] 0 0)),some l=>some (r::l)
  |_,_=>none
def oY (st:St):List Operand->Option (List Tm)
 |[]=>some []
 |o::os=>
  match ev st o,oY st os with
  |some x,some l=>some (x::l)
  |_,_=>none
def fG (st:St) (d:Nat):Option Operand->Option (List aa×Nat)
 |none=>some ([],d)
 |some o=>(match ev st o with|some (.a (.v (.int _ a)))=>some ([(aa.of (0<=a))],a.toNat)|_=>none)
def wG (E:Env) (st:St) (t:TypeId) (x:Tm) (lo hi:Option Operand):Option (List aa×Tm):=
 match E.ty t,x with
 | .sl _ m,.a (.sl r π l n)=>
   (match fG st 0 lo,fG st n hi with
    |some (q,i),some (q',j)=>
     (match st.rg.getD r .dead with
      | .arr te tg xs _ _=>(match Ar.dn ⟨te,tg,xs⟩ π with|some (RS,B)=>(match Nat.beq B.tg.length m with|true=>some (RS++(q++q'++[(aa.of (i<=j)),(aa.of (j<=n))]),.a (.sl r π (l+i) (j-i)))|false=>none)|none=>none)
      |_=>none)
    |_,_=>none)
 | .sl _ _,.a (.v (.slice none 0 0))=>
   (match fG st 0 lo,fG st 0 hi with
    |some (q,i),some (q',j)=>some (q++q'++[(aa.of (i=0)),(aa.of (j=0))],.a (.v (.slice none 0 0)))
    |_,_=>none)
 | .sl _ _,.a .z=>
   (match fG st 0 lo,fG st 0 hi with
    |some (q,i),some (q',j)=>some (q++q'++[(aa.of (i=0)),(aa.of (j=0))],.a .z)
    |_,_=>none)
 | .str,.a (.v (.string s))=>
   (match fG st 0 lo,fG st s.size hi with
    |some (q,i),some (q',j)=>some (q++q'++[(aa.of (i<=j)),(aa.of (j<=s.size))],.a (.v (.string (s.extract i j))))
    |_,_=>none)
 |_,_=>none
def jM {α:Type} (e:α->Bool):List α->Nat
 |[]=>0
 |x::l=>match e x with|true=>0|false=>jM e l+1
def CK.beq:(c:CK)->c.ty->c.ty->Bool
 | .int _,(a:Int),b=>a==b
 | .bool,(a:Bool),b=>a==b
 | .str,(a:ByteArray),b=>a.toList==b.toList
 | .sl _ _,_,_=>false
def ai.beq:(tg:List CK)->ai tg->ai tg->Bool
 |[],_,_=>true
 |[c],x,y=>c.beq x y
 |c::c'::cs,x,y=>c.beq x.1 y.1&&ai.beq (c'::cs) x.2 y.2
def CK.fX (c:CK):At->Option c.ty
 | .v x=>c.of x
 | .tt=>c.of (.bool true)
 | .ff=>c.of (.bool false)
 |_=>none
def eu:(tg:List CK)->List At->Option (ai tg)
 |[],[]=>some ()
 |[c],[x]=>c.fX x
 |c::c'::cs,x::xs=>(match c.fX x,eu (c'::cs) xs with|some y,some z=>some ((y,z):c.ty×ai (c'::cs))|_,_=>none)
 |_,_=>none
def Kb (E:Env) (t:TypeId) (x:Tm):Option (List aa×Tm):=
 match E.ty t,x with
 | .sl _ _,.a (.sl _ _ _ n)=>some ([],.a (.v (.int .i64 n)))
 | .sl _ _,.a (.v (.slice none n _))=>some ([],.a (.v (.int .i64 n)))
 | .sl _ _,.a .z=>some ([],.a (.v (.int .i64 0)))
 | .str,.a (.v (.string s))=>some ([],.a (.v (.int .i64 s.size)))
 | .map _ _,.a (.v (.map none))=>some ([],.a (.v (.int .i64 0)))
 |_,_=>none
def Ka {c c':CK} (h:c=c') (es:List (Int×c.ty)):List (Int×c'.ty):=h▸es
def mapOf (st:St) (k:IntKind) (c:CK) (x:At):Option (List (Int×c.ty)):=
 match x with
 | .v (.map none)=>some []
 | .mp r=>
   (match st.rg.getD r .dead with
    | .map _ k' c' es _=>(match sameKind k' k,Mr c' c with|true,some h=>some (Ka h.down es)|_,_=>none)
    |_=>none)
 |_=>none
def CK.pl:(c:CK)->c.ty->At
 | .int k,n=> .v (.int k n)
 | .bool,b=> .v (.bool b)
 | .str,s=> .v (.string s)
 | .sl _ _,_=> .any
/-! ### Maps from structs to slices -/
def ai.lV:(tg:List CK)->ai tg->List At
 |[],_=>[]
 |[c],x=>[c.pl x]
 |c::c'::cs,x=>c.pl x.1::ai.lV (c'::cs) x.2
def br {α:Type} (kk:List CK) (k:ai kk) (es:List (ai kk×α)):Nat:=jM (fun p=>ai.beq kk k p.1) es
def fL {α:Type} (kk:List CK) (k:ai kk) (v:α):List (ai kk×α)->List (ai kk×α)
 |[]=>[(k,v)]
 |p::es=>match ai.beq kk k p.1 with|true=>(p.1,v)::es|false=>p::fL kk k v es
def kr:List CK->List Nat->Bool
 |[],[]=>true
 | .int _::l,0::m=>kr l m
 | .bool::l,1::m=>kr l m
 | .str::l,2::m=>kr l m
 |_,_=>false
def aBG (E:Env) (kt:TypeId):Option (List CK):=
 match E.ty kt,E.kd kt,E.alp kt with
 | .st _ _,some kk,some ns=>(match kr kk ns with|true=>some kk|false=>none)
 |_,_,_=>none
def pN (E:Env) (et:TypeId):Option (TypeId×List CK):=
 match E.sc et with
 |some (.sl e tg)=>(match E.kd e with|some bX=>(match aau bX tg,aaa tg with|some _,true=>some (e,tg)|_,_=>none)|none=>none)
 |_=>none
def vv (c:CK) (es:List (Int×c.ty)) (n:Int) (ok:Bool):Tm:=
 match ok with
 |true=> .bF [.a (c.pl (aO es n c.d)),.a (.v (.bool (wO es n)))]
 |false=> .a (c.pl (aO es n c.d))
def oo (E:Env) (st:St) (o:Oper):Option (List aa×Tm):=
 match o.op with
 | .move x| .assign x=>(match ev st x with|some x=>some ([],x)|none=>none)
 | .pick c a b=>
   (match ev st c,ev st a,ev st b with
    |some (.a .tt),some x,_=>some ([],x)
    |some (.a .ff),_,some y=>some ([],y)
    |some (.a (.v (.bool c))),some x,some y=>
     (match qj x,qj y with
      |some x,some y=>some ([],bl (if c then x else y))
      |_,_=>none)
    |_,_,_=>none)
 | .load t a=>(match ev st a with|some a=>qw E st t a|none=>none)
 | .binOp op t x y _=>(match aim y with
   |true=>(match ev st x with|some x=>aiC E op t x|none=>none)
   |false=>(match ev st x,ev st y with|some x,some y=>uR E op t x y|_,_=>none))
 | .unOp op _ x=>(match ev st x with|some x=>Al E op x|none=>none)
 | .convert src dst x=>(match E.ty src,ev st x with| .int _,some x=>Ae E dst x| .sl e _,some (.a (.sl r π lo n))=>ahD E st e dst r π lo n|_,_=>none)
 | .fieldAddr s x f=>
   (match E.ty s,ev st x with
    | .st fs _,some (.a (.p r π i j))=>(match fs[f]? with|some (off,_+1)=>some ([],.a (.p r π i (j+off)))|_=>none)
    |_,_=>none)
 | .field s x f=>
   (match E.ty s,ev st x,E.lf s f with
    | .st fs _,some (.agg l),true=>(match fs[f]? with|some (off,1)=>(match l[off]? with|some y=>some ([],.a y)|none=>none)|_=>none)
    |_,_,_=>none)
 | .indexAddr t x ix=>
   (match E.ty t,ev st x,ev st ix with
    | .sl _ m,some (.a (.sl r π lo n)),some (.a (.v (.int _ i)))=>
      (match (st.rg.getD r .dead).dn π with
       |some (q,B)=>(match Nat.beq B.tg.length m with|true=>some (q++[(aa.of (0<=i/\i<n))],.a (.p r π (lo+i.toNat) 0))|false=>none)
       |none=>none)
    | .ar _ m n,some (.a (.p r π a j)),some (.a (.v (.int _ i)))=>some ([(aa.of (0<=i/\i<n))],.a (.p r π a (j+i.toNat*m)))
    |_,_,_=>none)
 | .index t x ix=>
   (match E.ty t,ev st x,ev st ix with
    | .ar e m n,some (.agg l),some (.a (.v (.int _ i)))=>
      (match E.ty e with
       | .st _ _=>some ([(aa.of (0<=i/\i<n))],.agg ((l.drop (i.toNat*m)).take m))
       |_=>none)
    | .str,some (.a (.v (.string s))),some (.a (.v (.int _ i)))=>some ([(aa.of (0<=i/\i<s.size))],.a (.v (.int .u8 ((s.data.getD i.toNat 0).toNat))))
    |_,_,_=>none)
 | .slice t x lo hi none=>(match ev st x with|some x=>wG E st t x lo hi|none=>none)
 | .slice t x none (some (.const (.int _ 0))) (some (.const (.int _ 0)))=>
   (match E.ty t,ev st x with
    | .sl _ _,some (.a (.sl _ _ _ _))=>some ([],.a .z)
    | .sl _ _,some (.a (.v (.slice none 0 0)))=>some ([],.a .z)
    | .sl _ _,some (.a .z)=>some ([],.a .z)
    |_,_=>none)
 | .lookup t x ix ok=>
   (match E.ty t with
    | .map kt et=>
      (match E.ty kt,E.sc et,ev st x,ev st ix with
       | .int k,some c,some (.a x),some (.a (.v (.int k' n)))=>
         (match sameKind k' k,mapOf st k c x with
          |true,some es=>some ([],vv c es n ok)
          |_,_=>none)
       |_,_,some (.a (.mp r)),some (.agg l)=>
        (match ok,st.rg.getD r .dead,aBG E kt,pN E et with
         |false,.bH _ kk e tg es _ _,some aBH,some (e',bX)=>
          (match aau aBH kk,pF e' e,aau bX tg,eu kk l with
           |some _,some _,some _,some k=>some ([(aa.of (br kk k es<es.length))],.a (.sl r [(br kk k es,0)] 0 ((es.getD (br kk k es) (ai.d kk,[])).2).length))
           |_,_,_,_=>none)
         |_,_,_,_=>none)
       |_,_,_,_=>none)
    |_=>none)
 | .entry x=>
   (match ev st x with
    |some (.a (.it r))=>
     (match st.rg.getD r .dead with
      | .iter (some m) n (j::_)=>
        (match st.rg.getD m .dead with
         | .map _ k c es _=>some ([(aa.of (es.length=n)),(aa.of (j<n))],.bF [.a (.v (.int k (es.getD j (0,c.d)).1)),.a (c.pl (es.getD j (0,c.d)).2)])
         | .bH _ kk _ _ es _ _=>some ([(aa.of (es.length=n)),(aa.of (j<n))],.bF [.agg (ai.lV kk (es.getD j (ai.d kk,[])).1),.a .any])
         |_=>none)
      |_=>none)
    |_=>none)
 | .nilCheck x=>(match ev st x with|some (.a (.p r π i j))=>some ([],.a (.p r π i j))|some (.a (.fn f l))=>some ([],.a (.fn f l))|_=>none)
 | .extract t i=>(match ev st t with|some (.bF l)=>(match l[i]? with|some c=>some ([],c.tm)|none=>none)|_=>none)
 | .build t parts=>
   (match E.ty t,E.zero t with
    | .st fs n,some z=>(match fg z n,oq fs st parts.toList z with|true,some l=>some ([],.agg l)|_,_=>none)
    | .ar _ m n,some z=>(match fg z (n*m),mF m st parts.toList z with|true,some l=>some ([],.agg l)|_,_=>none)
    |_,_=>none)
 | .makeFunc fn first aBd=>
   (match fn,first.toList,qv st aBd.toList with
    | .func f,[],some l=>some ([],.a (.fn f l))
    | .func f,[x],some []=>(match ev st x with|some (.agg [])=>some ([],.a (.v (.func (.func f) #[.agg #[]] #[])))|_=>none)
    |_,_,_=>none)
 | .call c=>
   (match c.callee with
    | .builtin .len=>
      (match c.args.toList,c.argTypes.toList with
       |[x],[t]=>(match ev st x with|some x=>Kb E t x|none=>none)
       |_,_=>none)
    | .builtin .cap=>
      (match c.args.toList,c.argTypes.toList with
       |[x],[t]=>(match E.ty t,ev st x with| .sl _ _,some (.a (.v (.slice none _ k)))=>some ([],.a (.v (.int .i64 k)))|_,_=>none)
       |_,_=>none)
    | .builtin .min=>
      (match c.args.toList with
       |[x,y]=>(match ev st x,ev st y with|some (.a (.v (.int k m))),some (.a (.v (.int _ n)))=>some ([],.a (.v (.int k (if n<m then n else m))))|_,_=>none)
       |_=>none)
    | .builtin .max=>
      (match c.args.toList with
       |[x,y]=>(match ev st x,ev st y with|some (.a (.v (.int k m))),some (.a (.v (.int _ n)))=>some ([],.a (.v (.int k (if n>m then n else m))))|_,_=>none)
       |_=>none)
    |_=>none)
 |_=>none
end Go.Sy
end
section
namespace Go.Sy
open Go
universe u
/-! ### What speaks of a region is forgotten -/
def Vq (r:Nat):List Nat->Bool
 |[]=>false
 |x::l=>match Nat.beq x r with|true=>true|false=>Vq r l
def isNil {α:Type u}:List α->Bool
 |[]=>true
 |_=>false
def At.kill (top deep:Bool) (r:Nat):At->At
 | .p r' π i j=>match Nat.beq r' r,isNil π with|false,_=> .p r' π i j|true,true=>(match top with|true=> .any|false=> .p r' π i j)|true,false=>(match deep with|true=> .any|false=> .p r' π i j)
 | .sl r' π lo n=>match Nat.beq r' r,isNil π with|false,_=> .sl r' π lo n|true,true=>(match top with|true=> .any|false=> .sl r' π lo n)|true,false=>(match deep with|true=> .any|false=> .sl r' π lo n)
 | .fn f l=>match top,Vq r l with|true,true=> .any|_,_=> .fn f l
 | .mp r'=>match Nat.beq r' r,top with|true,true=> .any|_,_=> .mp r'
 | .it r'=>match Nat.beq r' r,top with|true,true=> .any|_,_=> .it r'
 | .yl r'=>match Nat.beq r' r,top with|true,true=> .any|_,_=> .yl r'
 |x=>x
def C1.mapA (f:At->At):C1->C1
 | .a x=> .a (f x)
 | .agg l=> .agg (l.map f)
def Tm.mapA (f:At->At):Tm->Tm
 | .a x=> .a (f x)
 | .agg l=> .agg (l.map f)
 | .bF l=> .bF (l.map (C1.mapA f))
def Tr.gY (f:Tm->Tm) (t:Tr) (k:Tr->Prop):Prop:=
 Tr.rec (motive:=fun _=>(Tr->Prop)->Prop) (fun k=>k .nil)
  (fun x _ _ fl fr k=>agI (f x) (fun x=>fl (fun l=>fr (fun r=>k (.node x l r))))) t k
def Tr.map (f:Tm->Tm):Tr->Tr
 | .nil=> .nil
 | .node x l r=> .node (f x) (l.map f) (r.map f)
def Sl.map (f:At->At) (s:Sl):Sl:=⟨s.n,s.t.map (Tm.mapA f)⟩
def az.mapA (f:At->At):az->az
 | .box o l=> .box o (l.map f)
 | .lp b s L q j=> .lp b (s.map f) L q j
 | .iter (some r) n l=>(match f (.mp r)with| .mp r'=> .iter (some r') n l|_=> .dead)
 |g=>g
def Sl.gY (f:At->At) (s:Sl) (k:Sl->Prop):Prop:=
 match s with
 |⟨n,t⟩=>t.gY (Tm.mapA f) (fun t=>k ⟨n,t⟩)
def St.gY (f:At->At) (st:St) (k:St->Prop):Prop:=
 match st with
 |⟨tm,fr,rg⟩=>tm.gY f (fun tm=>fD (Sl.gY f) fr (fun fr=>fD (fun g k=>ou (az.mapA f g) k) rg (fun rg=>k ⟨tm,fr,rg⟩)))
def az.frozen:az->az
 | .box _ l=> .box false l
 | .arr te tg xs _ _=> .arr te tg xs false false
 | .map t k c es _=> .map t k c es false
 | .bH t kk e tg es _ _=> .bH t kk e tg es false false
 |g=>g
/-! ### Values that are put into arrays and maps -/
def uZ (cc:Bool) (st:St) (e:TypeId) (tg:List CK) (x:At) (K:St->List (ai tg)->Bool->Prop):Prop:=
 match x with
 | .v (.slice none 0 0)=>K st [] true
 | .z=>K st [] true
 | .sl r π lo n=>
   (match (match π,st.rg.getD r .dead with
     |[],.arr e' bX xs true true=>(match lo,Nat.beq e' e,aau bX tg with|0,true,some h=>some (jz h.down xs)|_,_,_=>none)
     |_,_=>none)with
    |some ys=>aBP cc [(aa.of (n=ys.length))] (st.eP r .dead (fun st=>K st ys true))
    |none=>
     (match (st.rg.getD r .dead).dn π with
      |some (q,B)=>
       (match Nat.beq B.te e,aau B.tg tg,aaa tg with
        |true,some h,true=>aBP cc (q++[(aa.of (lo+n<=B.xs.length))]) (st.eP r (st.rg.getD r .dead).frozen (fun st=>K st (((jz h.down B.xs).drop lo).take n) false))
        |_,_,_=>False)
      |none=>False))
 |_=>False
def lX (cc:Bool) (st:St) (c:CK) (x:At) (K:St->c.ty->Bool->Prop):Prop:=
 match c,K with
 | .sl e tg,K=>uZ cc st e tg x K
 | .int k,K=>(match CK.fX (.int k) x with|some y=>K st y true|none=>False)
 | .bool,K=>(match CK.fX .bool x with|some y=>K st y true|none=>False)
 | .str,K=>(match CK.fX .str x with|some y=>K st y true|none=>False)
def fu (a b:Bool):Bool:=match a with|true=>b|false=>false
def oW:(c:CK)->(cs:List CK)->c.ty->ai cs->ai (c::cs)
 |_,[],y,_=>y
 |_,_::_,y,z=>(y,z)
def uI (cc:Bool) (tg:List CK) (st:St) (l:List At) (K:St->ai tg->Bool->Prop):Prop:=
 List.rec (motive:=fun tg=>St->List At->(St->ai tg->Bool->Prop)->Prop)
  (fun st l K=>match l with|[]=>K st () true|_::_=>False)
  (fun c cs ih st l K=>match l with|[]=>False|x::xs=>lX cc st c x (fun st y b=>ih st xs (fun st z b'=>K st (oW c cs y z) (fu b b')))) tg st l K
def Fi (cc:Bool) (tg:List CK) (pos:Nat) (parts:List (Nat×Operand)) (st:St) (K:St->List (ai tg)->Bool->Prop):Prop:=
 List.rec (motive:=fun _=>Nat->St->(St->List (ai tg)->Bool->Prop)->Prop) (fun _ st K=>K st [] true)
  (fun io _ ih pos st K=>match io with
    |(i,o)=>
     (match Nat.beq i pos,ev st o with
      |true,some x=>
       (match iu x with
        |some l=>uI cc tg st l (fun st a b=>ih (pos+1) st (fun st xs b'=>K st (a::xs) (fu b b')))
        |none=>False)
      |_,_=>False)) parts pos st K
/-! ### Operations that write or make memory -/
def ai.yz:(tg:List CK)->ai tg->Nat->Value->Option (ai tg)
 |[],_,_,_=>none
 |[c],_,0,v=>c.of v
 |[_],_,_+1,_=>none
 |c::c'::cs,x,0,v=>(match c.of v with|some y=>some ((y,x.2):c.ty×ai (c'::cs))|none=>none)
 |c::c'::cs,x,j+1,v=>(match ai.yz (c'::cs) x.2 j v with|some y=>some ((x.1,y):c.ty×ai (c'::cs))|none=>none)
def lH (tg:List CK) (a:ai tg) (j:Nat):List At->Option (ai tg)
 |[]=>some a
 | .v x::xs=>(match ai.yz tg a j x with|some a'=>lH tg a' (j+1) xs|none=>none)
 | .tt::xs=>(match ai.yz tg a j (.bool true)with|some a'=>lH tg a' (j+1) xs|none=>none)
 | .ff::xs=>(match ai.yz tg a j (.bool false)with|some a'=>lH tg a' (j+1) xs|none=>none)
 |_=>none
def Ty.cells:Ty->Nat
 | .st _ n=>n
 | .ar _ m n=>n*m
 |_=>1
def St.jS (cc:Bool) (st:St) (r:Nat) (g:az) (K:St->Prop):Prop:=pE cc g (fun g=>st.eP r g K)
def JZ (cc:Bool) (st:St) (r:Nat) (π:Path) (C:Ar) (mv:Bool) (K:St->Prop):Prop:=
 match st.rg.getD r .dead with
 | .arr te tg xs o i=>(match Ar.up ⟨te,tg,xs⟩ π C with
   |some ⟨oO,bX,xs'⟩=>(match aau bX tg with|some h=>(match Nat.beq oO te with|true=>St.jS cc st r (.arr te tg (jz h.down xs') o (fu i mv)) K|false=>False)|none=>False)
   |none=>False)
 |_=>False
def az.mine (g:az) (π:Path):Bool:=
 match g,π with
 | .arr _ _ _ o _,[]=>o
 | .arr _ _ _ _ i,_::_=>i
 |_,_=>false
def BV (cc:Bool) (st:St) (r:Nat) (π:Path) (i j:Nat) (l:List At) (K:St->Prop):Prop:=
 match st.rg.getD r .dead with
 | .box true cells=>(match π,i,Nat.ble (j+l.length) cells.length with|[],0,true=>st.eP r (.box true (Z9 cells j l)) K|_,_,_=>False)
 |g=>
  (match g.mine π,g.dn π with
   |true,some (q,B)=>
    (match lH B.tg (B.get i) j l with
     |some a=>aBP cc (q++[(aa.of (i<B.xs.length))]) (JZ cc st r π ⟨B.te,B.tg,B.xs.set i a⟩ true K)
     |none=>False)
   |_,_=>False)
def Eb (st:St) (r:Nat) (π:Path) (i j:Nat) (l:List At):Option (Nat×List aa×az):=
 match π,l,st.rg.getD r .dead with
 |[],[.sl r2 [] 0 n],.arr te tg xs true true=>
  (match st.rg.getD r2 .dead,Nat.beq r r2 with
   | .arr e2 iU ys true true,false=>(match ai.cP tg (Ar.get ⟨te,tg,xs⟩ i) j ⟨e2,iU,ys⟩with|some b=>some (r2,[(aa.of (i<xs.length)),(aa.of (n=ys.length))],.arr te tg (xs.set i b) true true)|none=>none)
   |_,_=>none)
 |_,_,_=>none
def w9 (cc:Bool) (st:St) (r:Nat) (π:Path) (i j:Nat) (l:List At) (K:St->Prop):Prop:=
 match Eb st r π i j l with
 |some (r2,q,g)=>aBP cc q (st.eP r2 .dead (fun st=>St.gY (At.kill false true r) st (fun st=>St.jS cc st r g K)))
 |none=>BV cc st r π i j l K
def aBO (st:St) (tg:List CK) (r:Nat) (π:Path) (lo n:Nat):Option (List aa×List (ai tg)):=
 match (st.rg.getD r .dead).dn π with
 |some (q,B)=>(match aau B.tg tg with|some h=>some (q++[(aa.of (lo+n<=B.xs.length))],((jz h.down B.xs).drop lo).take n)|none=>none)
 |none=>none
def sB (cc:Bool) (st:St) (tg:List CK) (r:Nat) (π:Path) (lo n:Nat) (K:St->List (ai tg)->Bool->Prop):Prop:=
 match aaa tg with
 |true=>(match aBO st tg r π lo n with|some (q,xs)=>aBP cc q (K st xs true)|none=>False)
 |false=>False
def gD:Nat:=1099511627776
def iJ (cc:Bool) (st:St) (d:Option Nat) (r n:Nat) (K:St->Prop):Prop:=
 match cc with|true=>nW n (fun n=>st.aBS d (.a (.sl r [] 0 n)) K)|false=>st.aBS d (.a (.sl r [] 0 n)) K
def Ev (E:Env) (st:St) (d:Option Nat) (e:TypeId) (tg:List CK) (r l k r2 n:Nat) (K:St->Prop):Prop:=
 match st.rg.getD r .dead,st.rg.getD r2 .dead,Nat.beq r r2 with
 | .arr e' bX xs true akl,.arr _ iU ys true true,false=>
   (match Nat.beq e e',aau tg bX,aau iU bX with
    |true,some _,some h=>aBP E.aN [(aa.of (n=ys.length)),(aa.of (l+k=xs.length)),(aa.of ((k+n)*bX.length<=gD))]
      (st.eP r2 .dead (fun st=>St.gY (At.kill true true r) st (fun st=>St.jS E.aN st r (.arr e bX (xs.drop l++jz h.down ys) true akl) (fun st=>iJ E.aN st d r (k+n) K))))
    |_,_,_=>False)
 |_,_,_=>False
def Ew (E:Env) (st:St) (d:Option Nat) (e:TypeId) (tg:List CK) (r l k r2 lo n:Nat) (K:St->Prop):Prop:=
 match st.rg.getD r .dead,st.rg.getD r2 .dead,Nat.beq r r2 with
 | .arr e' bX xs true _,.arr e2 iU ys _ false,false=>
   (match Nat.beq e e',aau tg bX,aau iU bX with
    |true,some _,some h=>aBP E.aN [(aa.of (lo+n<=ys.length)),(aa.of (l+k=xs.length)),(aa.of ((k+n)*bX.length<=gD))]
      (st.eP r2 (.arr e2 iU ys false false) (fun st=>st.dN [.dead] (fun st=>St.gY (At.kill true true r) st (fun st=>St.jS E.aN st r (.arr e bX (xs.drop l++((jz h.down ys).drop lo).take n) true false) (fun st=>iJ E.aN st d r (k+n) K)))))
    |_,_,_=>False)
 |_,_,_=>False
def shares (st:St) (r2:Nat):Bool:=match st.rg.getD r2 .dead with| .arr _ _ _ _ false=>true|_=>false
def rW (E:Env) (st:St) (d:Option Nat) (e:TypeId) (tg:List CK) (r l k r2 lo n:Nat) (K:St->Prop):Prop:=
 match shares st r2 with
 |true=>Ew E st d e tg r l k r2 lo n K
 |false=>(match lo with|0=>Ev E st d e tg r l k r2 n K|_=>False)
def IB (E:Env) (st:St) (d:Option Nat) (t t':TypeId) (n:Int) (K:St->Prop):Prop:=
 match E.ty t,E.ty t' with
 | .sl e _,.int _=>
   (match E.kd e with
    |some tg=>(match aaa tg with
      |true=>aBP E.aN [(aa.of (0<n)),(aa.of (n*tg.length<=16777216))] (fy E.aN st.rg (fun r=>st.dN [.arr e tg [] true true] (fun st=>iJ E.aN st d r n.toNat K)))
      |false=>False)
    |none=>False)
 |_,_=>False
def Eu (E:Env) (st:St) (d:Option Nat) (t:TypeId) (s x:Tm) (K:St->Prop):Prop:=
 match E.ty t with
 | .sl e _=>
   (match E.kd e with
    |some tg=>
     (match (match x with
       | .a (.v (.slice none 0 0))=>some none
       | .a .z=>some none
       | .a (.sl r2 jr lo n)=>some (some (r2,jr,lo,n))
       |_=>none)with
      |some none=>(match s with
       | .a (.sl _ _ _ _)=>st.aBS d s K
       | .a (.v (.slice none 0 0))=>st.aBS d s K
       | .a .z=>st.aBS d s K
       |_=>False)
      |some (some (r2,jr,lo,n))=>
       (match aaa tg with
        |false=>
         (match jr,s with
          |[],.a (.sl r [] l k)=>rW E st d e tg r l k r2 lo n K
          |[],.a (.v (.slice none 0 0))=>fy E.aN st.rg (fun r=>st.dN [.arr e tg [] true true] (fun st=>rW E st d e tg r 0 0 r2 lo n K))
          |[],.a .z=>fy E.aN st.rg (fun r=>st.dN [.arr e tg [] true true] (fun st=>rW E st d e tg r 0 0 r2 lo n K))
          |_,_=>False)
        |true=>
          (match s with
           | .a (.sl r [] l k)=>
             (match st.rg.getD r .dead with
              | .arr e' bX xs true akl=>
                (match Nat.beq r r2,Nat.beq e e',aau tg bX with
                 |false,true,some _=>sB E.aN st bX r2 jr lo n (fun st news b=>aBP E.aN [(aa.of (l+k=xs.length)),(aa.of ((k+n)*bX.length<=gD))]
                   (St.gY (At.kill true true r) st (fun st=>St.jS E.aN st r (.arr e bX (xs.drop l++news) true (fu akl b)) (fun st=>iJ E.aN st d r (k+n) K))))
                 |_,_,_=>False)
              |_=>False)
           | .a (.v (.slice none 0 0))=>sB E.aN st tg r2 jr lo n (fun st news b=>aBP E.aN [(aa.of (n*tg.length<=gD))] (pE E.aN (.arr e tg news true b) (fun g=>fy E.aN st.rg (fun r=>st.dN [g] (fun st=>iJ E.aN st d r n K)))))
           | .a .z=>sB E.aN st tg r2 jr lo n (fun st news b=>aBP E.aN [(aa.of (n*tg.length<=gD))] (pE E.aN (.arr e tg news true b) (fun g=>fy E.aN st.rg (fun r=>st.dN [g] (fun st=>iJ E.aN st d r n K)))))
           |_=>False))
      |none=>False)
    |none=>False)
 |_=>False
def II:Tm->Option C1
 | .a x=>some (.a x)
 | .agg l=>some (.agg l)
 | .bF _=>none
def oA (st:St) (o:Operand):Option Int:=match ev st o with|some (.a (.v (.int _ n)))=>some n|_=>none
inductive uq (o:Oper):Prop
theorem uq.elim {o:Oper} {C:Prop} (h:uq o):C:=by cases h
def sx (E:Env) (st:St) (d:Option Nat) (t:TypeId) (m n x:Operand) (K:St->Prop):Prop:=
 match E.ty t,ev st m,ev st n,ev st x with
 | .map kt _,some (.a (.mp r)),some (.a (.v (.int k' n))),some (.a x)=>
   (match E.ty kt,st.rg.getD r .dead with
    | .int k,.map t' k2 c es true=>
      (match sameKind k' k,sameKind k2 k,CK.fX c x with
       |true,true,some v=>St.jS E.aN st r (.map t' k2 c (dF es n v) true) (fun st=>st.aBS d (.a .un) K)
       |_,_,_=>False)
    |_,_=>False)
 |_,_,_,_=>False
def OU {kk aBH:List CK} (h:kk=aBH) {tg bX:List CK} (h':tg=bX) (es:List (ai kk×List (ai tg))):List (ai aBH×List (ai bX)):=h▸h'▸es
def ac4 (st:St) (m:Operand):Option Nat:=
 match ev st m with
 |some (.a (.mp r))=>(match st.rg.getD r .dead with| .bH .. =>some r|_=>none)
 |_=>none
def sy (E:Env) (st:St) (d:Option Nat) (t:TypeId) (r:Nat) (n x:Operand) (K:St->Prop):Prop:=
 match E.ty t,ev st n,ev st x with
 | .map kt et,some (.agg l),some (.a x)=>
   (match aBG E kt,pN E et with
    |some kk,some (e,tg)=>
     (match eu kk l with
      |some k=>uZ E.aN st e tg x (fun st ys b=>
       (match st.rg.getD r .dead with
        | .bH t' aBH e' bX es true akl=>
          (match pF e e',aau kk aBH,aau tg bX with
           |some _,some h,some h'=>St.gY (At.kill false true r) st (fun st=>St.jS E.aN st r (.bH t' aBH e' bX (fL aBH (h.down▸k) (jz h'.down ys) es) true (fu akl b)) (fun st=>st.aBS d (.a .un) K))
           |_,_,_=>False)
        |_=>False))
      |none=>False)
    |_,_=>False)
 |_,_,_=>False
def wQ (E:Env) (st:St) (d:Option Nat) (t:TypeId) (r:Nat) (ix:Operand) (ok:Bool) (K:St->Prop):Prop:=
 match E.ty t,ev st ix,st.rg.getD r .dead with
 | .map kt et,some (.agg l),.bH _ kk e tg es _ _=>
   (match aBG E kt,pN E et,eu kk l with
    |some aBH,some (e',bX),some k=>
     (match aau aBH kk,pF e' e,aau bX tg with
      |some _,some _,some _=>
       (∀ j,br kk k es=j->j<es.length->st.aBS d (match ok with|true=> .bF [.a (.sl r [(j,0)] 0 ((es.getD j (ai.d kk,[])).2).length),.a .tt]|false=> .a (.sl r [(j,0)] 0 ((es.getD j (ai.d kk,[])).2).length)) K)/\
       (br kk k es=es.length->st.aBS d (match ok with|true=> .bF [.a (.v (.slice none 0 0)),.a .ff]|false=> .a (.v (.slice none 0 0))) K)
      |_,_,_=>False)
    |_,_,_=>False)
 |_,_,_=>False
def IT (c:Bool) (n:Nat) (k:Nat->Prop):Prop:=match c with|true=>nW n k|false=>k n
def Fm:BinOp->Option Bool
 | .eql=>some false
 | .neq=>some true
 |_=>none
def QN (b:Bool):At:=match b with|true=> .tt|false=> .ff
def Jq (E:Env) (st:St) (d:Option Nat) (t:TypeId) (op:BinOp) (x y:Option Tm) (K:St->Prop):Prop:=
 match E.ty t,Fm op,x,y with
 | .sl _ _,some b,some (.a x),some (.a (.v (.slice none _ _)))=>
   (match x with
    | .v (.slice none _ _)=>(match b with|true=>st.aBS d (.a .ff) K|false=>st.aBS d (.a .tt) K)
    | .z=>(match E.aN with|true=>False|false=>∀ c:Bool,st.aBS d (.a (.v (.bool c))) K)
    | .sl _ _ _ n=>(match E.aN with
       |true=>aBP true [(aa.of (0<n))] (st.aBS d (.a (QN b)) K)
       |false=>∀ c:Bool,(0<n->c=b)->st.aBS d (.a (.v (.bool c))) K)
    |_=>False)
 |_,_,_,_=>False
def aBj (E:Env) (st:St) (o:Oper) (K:St->Prop):Prop:=
 match o.op with
 | .box t x=>
   (match ev st x,E.ty t with
    |some _,.other=>False
    |some x,ty=>
     (match iu x with
      |some l=>(match fg l ty.cells with|true=>fy E.aN st.rg (fun r=>st.dN [.box true l] (fun st=>st.aBS o.dst (.a (.p r [] 0 0)) K))|false=>False)
      |none=>False)
    |none,_=>False)
 | .alloc t=>
   (match E.ty t,E.zero t with
    | .other,_=>False
    |_,some z=>fy E.aN st.rg (fun r=>st.dN [.box true z] (fun st=>st.aBS o.dst (.a (.p r [] 0 0)) K))
    |_,none=>False)
 | .store t a x=>
   (match ev st a,ev st x,E.ty t with
    |some _,some _,.other=>False
    |some (.a (.p r π i j)),some x,ty=>
     (match iu x with
      |some l=>(match fg l ty.cells with|true=>w9 E.aN st r π i j l (fun st=>st.aBS o.dst (.a .un) K)|false=>False)
      |none=>False)
    |_,_,_=>False)
 | .binOp op t x y _=>Jq E st o.dst t op (ev st x) (ev st y) K
 | .buildSlice t n parts=>
   (match E.ty t with
    | .sl e _=>
      (match E.kd e with
       |some tg=>(match Nat.beq n 0,parts.toList with
        |true,[]=>st.aBS o.dst (.a .z) K
        |_,_=>Fi E.aN tg 0 parts.toList st (fun st xs b=>
         (match fg xs n with
          |true=>aBP E.aN [(aa.of (0<n)),(aa.of (n*tg.length<=16777216))] (fy E.aN st.rg (fun r=>st.dN [.arr e tg xs true b] (fun st=>st.aBS o.dst (.a (.sl r [] 0 n)) K)))
          |false=>False)))
       |none=>False)
    |_=>False)
 | .makeSlice t len cap=>
   (match E.ty t,oA st len,oA st cap with
    | .sl e _,some n,some c=>
      (match E.kd e with
       |some tg=>aBP E.aN [(aa.of (0<=n)),(aa.of (n=c)),(aa.of (n*tg.length<=16777216))] (fy E.aN st.rg (fun r=>pE E.aN (.arr e tg (List.replicate n.toNat (ai.d tg)) true true) (fun g=>st.dN [g] (fun st=>iJ E.aN st o.dst r n.toNat K))))
       |none=>False)
    |_,_,_=>False)
 | .makeMap t rv=>
   (match E.ty t,rv with
    | .map kt et,none=>
      (match aBG E kt,pN E et with
       |some kk,some (e,tg)=>fy E.aN st.rg (fun r=>st.dN [.bH t kk e tg [] true true] (fun st=>st.aBS o.dst (.a (.mp r)) K))
       |_,_=>(match E.ty kt,E.sc et with
       | .int k,some c=>fy E.aN st.rg (fun r=>st.dN [.map t k c [] true] (fun st=>st.aBS o.dst (.a (.mp r)) K))
       |_,_=>False))
    |_,_=>False)
 | .range t x=>
   (match E.ty t,ev st x with
    | .map _ _,some (.a (.v (.map none)))=>fy E.aN st.rg (fun r=>st.dN [.iter none 0 []] (fun st=>st.aBS o.dst (.a (.it r)) K))
    | .map _ _,some (.a (.mp m))=>
      (match st.rg.getD m .dead with
       | .map _ _ _ es _=>IT E.aN es.length (fun n=>fy E.aN st.rg (fun r=>st.dN [.iter (some m) n []] (fun st=>st.aBS o.dst (.a (.it r)) K)))
       | .bH _ _ _ _ es _ _=>IT E.aN es.length (fun n=>fy E.aN st.rg (fun r=>st.dN [.iter (some m) n []] (fun st=>st.aBS o.dst (.a (.it r)) K)))
       |_=>False)
    |_,_=>False)
 | .next x av1=>
   (match av1,ev st x with
    |false,some (.a (.it r))=>
     (match st.rg.getD r .dead with
      | .iter none _ _=>st.aBS o.dst (.bF [.a .ff]) K
      | .iter (some m) n seen=>
        (match st.rg.getD m .dead with
         | .map _ k c es _=>aBP E.aN [(aa.of (es.length=n))] (
            (∀ j,j<n->Vq j seen=false->st.eP r (.iter (some m) n (j::seen)) (fun st=>st.aBS o.dst (.bF [.a .tt,.a (.v (.int k (es.getD j (0,c.d)).1)),.a (c.pl (es.getD j (0,c.d)).2)]) K))/\
            ((∀ j,j<n->Vq j seen=true)->st.aBS o.dst (.bF [.a .ff]) K))
         | .bH _ kk _ _ es _ _=>aBP E.aN [(aa.of (es.length=n))] (
            (∀ j,j<n->Vq j seen=false->st.eP r (.iter (some m) n (j::seen)) (fun st=>st.aBS o.dst (.bF [.a .tt,.agg (ai.lV kk (es.getD j (ai.d kk,[])).1),.a .any]) K))/\
            ((∀ j,j<n->Vq j seen=true)->st.aBS o.dst (.bF [.a .ff]) K))
         |_=>False)
      |_=>False)
    |_,_=>False)
 | .mapUpdate t m n x=>(match ac4 st m with|some r=>sy E st o.dst t r n x K|none=>sx E st o.dst t m n x K)
 | .insert t m n x=>(match ac4 st m with|some r=>sy E st o.dst t r n x K|none=>sx E st o.dst t m n x K)
 | .lookup t m n ok=>(match ac4 st m with|some r=>wQ E st o.dst t r n ok K|none=>False)
 | .call c=>
   (match c.callee with
    | .builtin .append=>
      (match c.args.toList,c.argTypes.toList with
       |[s,x],[t,t']=>(match Nat.beq t t',ev st s,ev st x with
        |true,some s,some x=>Eu E st o.dst t s x K
        |false,some (.a (.v (.slice none 0 0))),some (.a (.v (.int .i64 n)))=>IB E st o.dst t t' n K
        |_,_,_=>False)
       |_,_=>False)
    |_=>uq o)
 |_=>uq o
/-! ### Calls -/
def kj (st:St) (f:Operand):Option (FuncId×List Tm×List Tm):=
 match ev st f with
 |some (.a (.fn f aBd))=>some (f,[],aBd.map fun r=> .a (.p r [] 0 0))
 |some (.a (.v (.func (.func f) first aBd)))=>
  (match first.toList,aBd.toList with
   |[.agg l],[]=>(match l.toList with|[]=>some (f,[.agg []],[])|_=>none)
   |_,_=>none)
 |_=>none
def At.oF (f:Nat->Nat):At->At
 | .p r π i j=> .p (f r) π i j
 | .sl r π lo n=> .sl (f r) π lo n
 | .fn g l=> .fn g (l.map f)
 | .mp r=> .mp (f r)
 | .it r=> .it (f r)
 | .yl r=> .yl (f r)
 |x=>x
def Tm.oF (f:Nat->Nat):Tm->Tm:=Tm.mapA (At.oF f)
def cM.zf (st:St) (d:Option Nat) (res:cM) (k:St->Prop):Prop:=
 aBK st.rg (fun n=>st.dN res.rg (fun st=>st.aBS d (res.tm.oF (fun r=>n+r)) k))
def Mq (cc:Bool) (st:St) (l:List (Nat×az)) (k:St->Prop):Prop:=
 List.rec (motive:=fun _=>St->(St->Prop)->Prop) (fun st k=>k st) (fun rg _ ih st k=>match rg with|(r,g)=>St.jS cc st r g (fun st=>ih st k)) l st k
abbrev Cl:=Body->List Tm->St->(Tm->St->Prop)->Prop
def GH (E:Env) (cl:Cl) (st:St) (o:Oper) (c:Call) (K:St->Prop):Prop:=
 match c.callee with
 | .value f=>
   (match kj st f,oY st c.args.toList with
    |some (f,pre,aBd),some args=>
     (match E.ct f with
      |some (.fn F)=>(match F (pre++(args++aBd)) st.rg with|some (q,t)=>aBP E.aN q (st.iF E o t K)|none=>False)
      |some (.new C)=>C (pre++(args++aBd)) st.rg (fun res=>res.zf st o.dst K)
      |some (.rel C)=>C (pre++(args++aBd)) st.rg (fun ch res=>Mq E.aN st ch (fun st=>res.zf st o.dst K))
      |none=>(match E.inl f with|some b=>cl b (pre++(args++aBd)) st (fun x st=>st.aBS o.dst x K)|none=>uq o))
    |_,_=>False)
 |_=>False
def oc (o:Oper):Option Call:=match o.op with| .call c=>(match c.callee with| .value _=>some c|_=>none)|_=>none
def sI (st:St) (d:Option Nat) (m:Nat) (i:Int) (K:St->Prop) (n:Nat) (l:List At) (k:Nat):Prop:=
 Nat.rec (motive:=fun _=>List At->Nat->Prop) (fun _ _=>True)
  (fun _ ih l k=>(i=(k:Int)->st.aBS d (match l.take m with|[x]=> .a x|l=> .agg l) K)/\ih (l.drop m) (k+1)) n l k
def gO (E:Env) (cl:Cl) (st:St) (o:Oper) (K:St->Prop):Prop:=
 match oc o with
 |some c=>GH E cl st o c K
 |none=>
  match oo E st o with
  |some (q,x)=>aBP E.aN q (st.iF E o x K)
  |none=>
   match o.op with
   | .index t x ix=>
     (match E.ty t,ev st x,ev st ix with
      | .ar e m n,some (.agg l),some (.a (.v (.int _ i)))=>aBP E.aN [(aa.of (0<=i/\i<n))] (match E.ty e,fg l (n*m)with| .st _ _,_=>False| .ar _ _ _,_=>False| .other,_=>False|_,true=>sI st o.dst m i K n l 0|_,_=>False)
      |_,_,_=>False)
   |_=>aBj E st o K
def cV (cc:Bool) (st:St) (ops:Array Oper) (g:Option (Nat×Bool)) (ni no:St->Prop):Prop:=
 match g with
 |none=>ni st
 |some (j,want)=>
  match (ops[j]?).bind (·.dst)with
  |none=>False
  |some d=>
   match st.tm.get d with
   | .a .un=>no st
   | .a .tt=>(match want with|true=>ni st|false=>no st)
   | .a .ff=>(match want with|true=>no st|false=>ni st)
   | .a (.v (.bool b))=>
     (match cc with
      |true=>(match b,want with
       |true,true=>st.aBS (some d) (.a .tt) ni
       |true,false=>st.aBS (some d) (.a .tt) no
       |false,true=>st.aBS (some d) (.a .ff) no
       |false,false=>st.aBS (some d) (.a .ff) ni)
      |false=>match want with
      |true=>(b=true->st.aBS (some d) (.a .tt) ni)/\(b=false->st.aBS (some d) (.a .ff) no)
      |false=>(b=true->st.aBS (some d) (.a .tt) no)/\(b=false->st.aBS (some d) (.a .ff) ni))
   |_=>False
def lZ (E:Env) (cl:Cl) (ops:Array Oper) (l:List Oper):St->(St->Prop)->Prop:=
 List.rec (motive:=fun _=>St->(St->Prop)->Prop) (fun st K=>K st)
  (fun o _ ih st K=>cV E.aN st ops o.guard (fun st=>gO E cl st o (fun st=>ih st K)) (fun st=>st.aBS o.dst (.a .un) (fun st=>ih st K))) l
abbrev Rd:=Nat->List Tm->St->(Tm->St->Prop)->Prop
def yieldOf (st:St) (o:Oper):Option (Nat×List Tm):=
 match o.op with
 | .call c=>
   (match c.callee with
    | .value f=>(match ev st f,oY st c.args.toList with|some (.a (.yl r)),some l=>some (r,l)|_,_=>none)
    |_=>none)
 |_=>none
def om (E:Env) (cl:Cl) (rd:Rd) (ops:Array Oper) (l:List Oper):St->(St->Prop)->Prop:=
 List.rec (motive:=fun _=>St->(St->Prop)->Prop) (fun st K=>K st)
  (fun o _ ih st K=>cV E.aN st ops o.guard
    (fun st=>match yieldOf st o with
      |some (r,args)=>rd r args st (fun x st=>st.aBS o.dst x (fun st=>ih st K))
      |none=>gO E cl st o (fun st=>ih st K))
    (fun st=>st.aBS o.dst (.a .un) (fun st=>ih st K))) l
/-! ### Regions that draw their order -/
def At.sure:At->Bool
 | .any=>false
 | .sl _ _ _ _=>false
 | .z=>false
 | .err=>false
 |_=>true
def C1.sure:C1->Bool
 | .a x=>x.sure
 | .agg l=>bZ At.sure l
def Tm.sure:Tm->Bool
 | .a x=>x.sure
 | .agg l=>bZ At.sure l
 | .bF l=>bZ C1.sure l
def BH (o:Oper):Bool:=
 match o.op with
 | .move _| .assign _| .load .. | .extract .. | .slice _ _ _ _ none=>true
 | .lookup _ _ _ false=>true
 |_=>false
def oD (o:Oper):Bool:=match o.op with| .move _| .assign _| .fieldAddr .. | .indexAddr .. | .build .. | .unOp .. | .binOp .. | .nilCheck .. | .extract .. =>true|_=>false
def calm (o:Oper) (x:Tm):Bool:=match BH o with|true=>true|false=>(match oD o with|true=>true|false=>x.sure)
def kp (E:Env) (st:St) (o:Oper):Option (List aa×Tm):=
 match oc o with
 |some c=>
  (match c.callee with
   | .value f=>
     (match kj st f,oY st c.args.toList with
      |some (f,pre,aBd),some args=>
       (match E.ct f with
        |some (.fn F)=>F (pre++(args++aBd)) st.rg
        |_=>none)
      |_,_=>none)
   |_=>none)
 |none=>oo E st o
def Ke (E:Env) (ops:Array Oper) (l:List Oper):St->(St->Prop)->Prop:=
 List.rec (motive:=fun _=>St->(St->Prop)->Prop) (fun st K=>K st)
  (fun o _ ih st K=>cV E.aN st ops o.guard
    (fun st=>match kp E st o with
      |some (q,x)=>aBP E.aN q (match calm o x with|true=>st.iF E o x (fun st=>ih st K)|false=>False)
      |none=>False)
    (fun st=>st.aBS o.dst (.a .un) (fun st=>ih st K))) l
def LH (o:Oper):Bool:=
 match o.op with
 | .box .. | .alloc .. | .store .. | .buildSlice .. | .makeSlice .. | .makeMap .. | .mapUpdate .. | .insert .. | .range .. | .next .. =>false
 | .call {callee:=.builtin .append,.. }=>false
 | .call {callee:=.builtin .copy,.. }=>false
 |_=>true
def DC:List Oper->Nat
 |[]=>0
 |o::l=>match LH o with|true=>DC l+1|false=>0
structure Tk (b:Bool):Prop where
 h:b=true
abbrev Qj (l:List Oper):Prop:=Tk (Region.lexB .any l.toArray)
def jU (ops:Array Oper) (k:Nat) (listed:Array Bool):Bool:=
 (Region.ready .any ops listed).contains k&&(decide (Region.ready .any ops listed=[k])||Region.free .any ops listed k)
def upTo (ops:Array Oper):Nat->Array Bool
 |0=>Array.replicate ops.size false
 |k+1=>(upTo ops k).setIfInBounds k true
def sj (ops:Array Oper) (k:Nat):Bool:=decide (Region.ready .any ops (upTo ops k)=[k])
def jW (ops:Array Oper) (n:Nat):Bool:=Nat.beq n ops.size||(decide (n<ops.size)&&Region.sinkB .any ops n&&Region.chainB .any ops n)
def Fg (ops:Array Oper) (n:Nat):Bool:=
 Region.noSelect ops&&decide (n<=ops.size)&&jW ops n&&(List.range n).all (fun k=>jU ops k (upTo ops k))&&Region.seqB .any ops (ops.size-n) n (upTo ops n)
abbrev Qk (l:List Oper) (n:Nat):Prop:=Tk (Fg l.toArray n)
abbrev FL (l:List Oper) (k:Nat):Prop:=Tk (sj l.toArray k)
def dM (o:Oper):Bool:=
 match o.op with
 | .store .. | .mapUpdate .. | .insert .. | .next .. =>false
 | .call {callee:=.builtin .append,.. }=>false
 |_=>true
def keeps (E:Env) (o:Oper):Bool:=
 match o.op with
 | .call c=>(match c.callee with| .value (.func f)=>(match E.ct f with|some (.fn _)=>true|some (.new _)=>true|_=>false)| .value _=>false|_=>dM o)
 |_=>dM o
def storeAt:List Oper->Nat
 |[]=>0
 |o::l=>match dM o with|true=>storeAt l+1|false=>0
def iZ (cc b:Bool) (p q:Prop):Prop:=match cc with|true=>(match b with|true=>q|false=>False)|false=>p/\q
def GI (E:Env) (cl:Cl) (l:List Oper) (ops:Array Oper) (hd:List Oper):Nat->St->(St->Prop)->Prop:=
 List.rec (motive:=fun _=>Nat->St->(St->Prop)->Prop) (fun _ st K=>K st)
  (fun o _ ih k st K=>cV E.aN st ops o.guard
    (fun st=>match kp E st o with
      |some (q,x)=>(match calm o x with|true=>aBP E.aN q (st.iF E o x (fun st=>ih (k+1) st K))|false=>False)
      |none=>(match keeps E o with|true=>iZ E.aN (sj l.toArray k) (FL l k) (gO E cl st o (fun st=>ih (k+1) st K))|false=>False))
    (fun st=>st.aBS o.dst (.a .un) (fun st=>ih (k+1) st K))) hd
def lG (ops:Array Oper) (done:List Nat):Array Bool:=done.foldl (fun a i=>a.setIfInBounds i true) (Array.replicate ops.size false)
def Fh (ops:Array Oper) (ord:List Nat):Bool:=
 Region.noSelect ops&&decide (ord.length<=ops.size)&&jW ops ord.length&&(List.range ord.length).all (fun k=>jU ops (ord.getD k 0) (lG ops (ord.take k))&&decide (ord.getD k 0<ord.length))&&Region.seqB .any ops (ops.size-ord.length) ord.length (lG ops ord)
abbrev Ql (l:List Oper) (ord:List Nat):Prop:=Tk (Fh l.toArray ord)
def sk (ops:Array Oper) (done:List Nat) (i:Nat):Bool:=decide (Region.ready .any ops (lG ops done)=[i])
abbrev C2 (l:List Oper) (done:List Nat) (i:Nat):Prop:=Tk (sk l.toArray done i)
def Ah (E:Env) (cl:Cl) (l:List Oper) (ops:Array Oper) (ord:List Nat):List Nat->St->(St->Prop)->Prop:=
 List.rec (motive:=fun _=>List Nat->St->(St->Prop)->Prop) (fun _ st K=>K st)
  (fun i _ ih done st K=>match l[i]? with
    |none=>False
    |some o=>cV E.aN st ops o.guard
     (fun st=>match kp E st o with
       |some (q,x)=>(match calm o x with|true=>aBP E.aN q (st.iF E o x (fun st=>ih (done++[i]) st K))|false=>False)
       |none=>(match keeps E o with|true=>iZ E.aN (sk l.toArray done i) (C2 l done i) (gO E cl st o (fun st=>ih (done++[i]) st K))|false=>False))
     (fun st=>st.aBS o.dst (.a .un) (fun st=>ih (done++[i]) st K))) ord
/-! ### Regions that draw: every order,by a tree -/
def OT.fV:OT->List Nat
 | .fin=>[]
 | .alt i _ m=>i::OT.fV m
 | .take _ _=>[]
def OT.vl:OT->Bool
 | .fin=>true
 |_=>false
def OT.next (t:OT) (p q:Prop):Prop:=
 match t with
 | .fin=>p
 |_=>q
def nD (ops:Array Oper):OT->Bool->Nat->Array Bool->Bool
 | .fin,b,_,listed=>!b||decide (Region.ready .any ops listed=[])
 | .take i t,b,n,listed=>b&&(Region.free .any ops listed i&&((Region.ready .any ops listed).contains i&&(decide (n≠0)&&nD ops t true (n-1) (listed.setIfInBounds i true))))
 | .alt i t m,b,n,listed=>(!b||decide (OT.fV (.alt i t m)=Region.ready .any ops listed))&&(decide (n≠0)&&(nD ops t true (n-1) (listed.setIfInBounds i true)&&nD ops m false n listed))
def Bv (ops:Array Oper) (t:OT):Bool:=Region.noSelect ops&&(!OT.vl t&&nD ops t true ops.size (Array.replicate ops.size false))
abbrev Qm (l:List Oper) (t:OT):Prop:=Tk (Bv l.toArray t)
def jC (E:Env) (cl:Cl) (l:List Oper) (ops:Array Oper) (K:St->Prop) (t:OT):St->Prop:=
 OT.rec (motive:=fun _=>St->Prop) (fun _=>True)
  (fun i t _ it im st=>
    (match l[i]? with
     |some o=>cV E.aN st ops o.guard (fun st=>gO E cl st o (fun st=>OT.next t (K st) (it st))) (fun st=>st.aBS o.dst (.a .un) (fun st=>OT.next t (K st) (it st)))
     |none=>False)/\im st)
  (fun i t it st=>
    (match l[i]? with
     |some o=>cV E.aN st ops o.guard (fun st=>match oD o,oo E st o with
       |true,some (q,x)=>aBP E.aN q (st.iF E o x (fun st=>OT.next t (K st) (it st)))
       |_,_=>False) (fun st=>st.aBS o.dst (.a .un) (fun st=>OT.next t (K st) (it st)))
     |none=>False)) t
def gu (ops:Array Oper) (n:Nat):OT->Bool->Nat->Array Bool->Bool
 | .fin,b,f,listed=>!b||(Nat.beq f 0&&Region.seqB .any ops (ops.size-n) n listed)
 | .take i t,b,f,listed=>b&&(jU ops i listed&&(decide (i<n)&&(decide (f≠0)&&gu ops n t true (f-1) (listed.setIfInBounds i true))))
 | .alt i t m,b,f,listed=>(!b||decide (OT.fV (.alt i t m)=Region.ready .any ops listed))&&(decide (i<n)&&(decide (f≠0)&&(gu ops n t true (f-1) (listed.setIfInBounds i true)&&gu ops n m false f listed)))
def rB (ops:Array Oper) (n:Nat) (t:OT):Bool:=Region.noSelect ops&&(decide (n<=ops.size)&&(jW ops n&&(!OT.vl t&&gu ops n t true n (Array.replicate ops.size false))))
abbrev Mh (l:List Oper) (n:Nat) (t:OT):Prop:=Tk (rB l.toArray n t)
def uU (E:Env) (cl:Cl) (l:List Oper) (ops:Array Oper) (K:St->Prop) (t:OT):St->Prop:=
 OT.rec (motive:=fun _=>St->Prop) (fun _=>True)
  (fun i t _ it im st=>
    (match l[i]? with
     |some o=>cV E.aN st ops o.guard (fun st=>match keeps E o with|true=>gO E cl st o (fun st=>OT.next t (K st) (it st))|false=>False) (fun st=>st.aBS o.dst (.a .un) (fun st=>OT.next t (K st) (it st)))
     |none=>False)/\im st)
  (fun i t it st=>
    (match l[i]? with
     |some o=>cV E.aN st ops o.guard (fun st=>match kp E st o with
       |some (q,x)=>(match calm o x with|true=>aBP E.aN q (st.iF E o x (fun st=>OT.next t (K st) (it st)))|false=>False)
       |none=>False) (fun st=>st.aBS o.dst (.a .un) (fun st=>OT.next t (K st) (it st)))
     |none=>False)) t
def sr:At->Bool
 | .any=>true
 |_=>false
def az.uv:az->az
 | .box o l=> .box o (l.map fun _=> .any)
 |g=>g
def FG (l:List Nat) (st:St) (K:St->Prop):Prop:=
 List.rec (motive:=fun _=>St->(St->Prop)->Prop) (fun st K=>K st) (fun r _ ih st K=>st.eP r (st.rg.getD r .dead).uv (fun st=>ih st K)) l st K
def pL (E:Env) (st:St) (o:Oper):Option (Nat×Nat×List At×List At):=
 match o.op,o.dst,o.guard with
 | .store t a x,none,none=>
   (match ev st a,ev st x,E.ty t with
    |some _,some _,.other=>none
    |some (.a (.p r [] 0 j)),some x,ty=>
     (match iu x,st.rg.getD r .dead with
      |some l,.box true cells=>(match fg l ty.cells,Nat.ble (j+l.length) cells.length,bZ sr cells with|true,true,true=>some (r,j,cells,l)|_,_,_=>none)
      |_,_=>none)
    |_,_,_=>none)
 |_,_,_=>none
def yZ (E:Env) (st:St) (o:Oper) (K:St->Prop):Prop:=
 match o.op,o.guard with
 | .alloc t,none=>
   (match E.ty t,E.zero t with
    | .other,_=>False
    |_,some z=>fy E.aN st.rg (fun r=>st.dN [.box true (z.map fun _=> .any)] (fun st=>st.aBS o.dst (.a (.p r [] 0 0)) K))
    |_,none=>False)
 | .makeSlice t len cap,none=>
   (match E.ty t,oA st len,oA st cap with
    | .sl e _,some n,some c=>
      (match E.kd e with
       |some tg=>aBP E.aN [(aa.of (0<=n)),(aa.of (n=c)),(aa.of (n*tg.length<=16777216))] (fy E.aN st.rg (fun r=>st.dN [.arr e tg (List.replicate n.toNat (ai.d tg)) true true] (fun st=>st.aBS o.dst (.a (.sl r [] 0 n.toNat)) K)))
       |none=>False)
    |_,_,_=>False)
 |_,_=>False
def Ak (E:Env) (l:List Oper) (K:St->Prop) (t:OT):St->Prop:=
 OT.rec (motive:=fun _=>St->Prop) (fun _=>True)
  (fun i t _ it im st=>
    (match l[i]? with
     |some o=>(match pL E st o with|some (r,j,cells,l)=>st.eP r (.box true (Z9 cells j l)) (fun st=>OT.next t (K st) (it st))|none=>yZ E st o (fun st=>OT.next t (K st) (it st)))
     |none=>False)/\im st)
  (fun i t it st=>
    (match l[i]? with
     |some o=>(match o.guard,kp E st o with
       |none,some (q,x)=>(match x.sure with|true=>aBP E.aN q (st.iF E o x (fun st=>OT.next t (K st) (it st)))|false=>False)
       |_,_=>False)
     |none=>False)) t
def Z5 (E:Env) (cl:Cl) (id:Nat) (l:List Oper) (st:St) (K:St->Prop):Prop:=
 match E.str id with
 |some dt=>iZ E.aN (rB l.toArray l.length dt.2) (Mh l l.length dt.2) (FG dt.1 st (fun st=>Ak E l K dt.2 st))
 |none=>
 match E.htr id with
 |some nt=>iZ E.aN (rB l.toArray nt.1 nt.2) (Mh l nt.1 nt.2) (uU E cl l l.toArray (fun st=>lZ E cl l.toArray (l.drop nt.1) st K) nt.2 st)
 |none=>
 match E.tree id with
 |some t=>iZ E.aN (Bv l.toArray t) (Qm l t) (jC E cl l l.toArray K t st)
 |none=>
 match E.ord id with
 |some ord=>iZ E.aN (Fh l.toArray ord) (Ql l ord) (Ah E cl l l.toArray ord [] st (fun st=>lZ E cl l.toArray (l.drop ord.length) st K))
 |none=>
 match Nat.beq (DC l) l.length with
 |true=>iZ E.aN (Region.lexB .any l.toArray) (Qj l) (Ke E l.toArray l st K)
 |false=>iZ E.aN (Fg l.toArray (storeAt l)) (Qk l (storeAt l)) (GI E cl l l.toArray (l.take (storeAt l)) 0 st (fun st=>lZ E cl l.toArray (l.drop (storeAt l)) st K))
/-! ### Code -/
inductive Ex where
 |normal
 |exit (id:Nat)
 |ret
def rn (is:List Nat) (r:Nat):Nat:=match is[r]? with|some k=>k|none=>r
def DP (is:List Nat) (m n:Nat):At->At->Prop
 |_,.any=>True
 | .un,.un=>True
 | .v (.slice none 0 0),.z=>True
 | .z,.z=>True
 | .v (.slice none 0 0),.sl r' aW lo k=>m<=rn is r'/\r'<n/\aW=[]/\lo=0/\k=0
 | .z,.sl r' aW lo k=>m<=rn is r'/\r'<n/\aW=[]/\lo=0/\k=0
 | .v (.int k a),.v (.int k' b)=>k=k'/\a=b
 | .v (.bool a),.v (.bool b)=>a=b
 | .v x,.v y=>x=y
 | .tt,.tt=>True
 | .ff,.ff=>True
 | .tt,.v (.bool b)=>b=true
 | .ff,.v (.bool b)=>b=false
 | .p r π i j,.p r' aW i' j'=>r'<n/\r<m/\r=rn is r'/\π=aW/\i=i'/\j=j'
 | .sl r π lo k,.sl r' aW lo' k'=>r'<n/\r<m/\r=rn is r'/\π=aW/\lo=lo'/\k=k'
 | .fn f l,.fn f' l'=>f=f'/\l=l'.map (rn is)/\∀ r∈l',r<n/\rn is r<m
 | .mp r,.mp r'=>r'<n/\r<m/\r=rn is r'
 | .it r,.it r'=>r'<n/\r<m/\r=rn is r'
 | .yl r,.yl r'=>r'<n/\r<m/\r=rn is r'
 | .err,.err=>True
 |_,_=>False
def akm (is:List Nat) (m n:Nat):List At->List At->Prop
 |[],[]=>True
 |x::xs,y::ys=>DP is m n x y/\akm is m n xs ys
 |_,_=>False
def NT (is:List Nat) (m n:Nat):C1->C1->Prop
 | .a x,.a y=>DP is m n x y
 | .agg l,.agg l'=>akm is m n l l'
 |_,_=>False
def Jj (is:List Nat) (m n:Nat):List C1->List C1->Prop
 |[],[]=>True
 |x::xs,y::ys=>NT is m n x y/\Jj is m n xs ys
 |_,_=>False
def DR (is:List Nat) (m n:Nat):Tm->Tm->Prop
 |_,.a .any=>True
 | .a x,.a y=>DP is m n x y
 | .agg l,.agg l'=>akm is m n l l'
 | .bF l,.bF l'=>Jj is m n l l'
 |_,_=>False
def wM (is:List Nat) (m n:Nat) (t t':Tr):Prop:=
 Tr.rec (motive:=fun _=>Tr->Prop) (fun _=>True)
  (fun y _ _ fl fr t=>match t with
    | .nil=>(match y with| .a .any=>True|_=>False)/\fl .nil/\fr .nil
    | .node x l r=>DR is m n x y/\fl l/\fr r) t' t
def Kv (is:List Nat) (m n:Nat) (s s':Sl):Prop:=s.n=s'.n/\wM is m n s.t s'.t
def NU (is:List Nat) (m n:Nat):List Sl->List Sl->Prop
 |[],[]=>True
 |x::xs,y::ys=>Kv is m n x y/\NU is m n xs ys
 |_,_=>False
def mI:Bool->Bool->Prop
 |true,_=>True
 |false,b=>b=false
def DQ (is:List Nat) (m n:Nat):az->az->Prop
 |_,.dead=>True
 | .box o l,.box o' l'=>mI o o'/\akm is m n l l'
 | .arr te tg xs o i,.arr oO bX xs' o' i'=>(∃ h:tg=bX,te=oO/\jz h xs=xs')/\mI o o'/\mI i i'
 | .map t k c es o,.map t' k' c' es' o'=>(∃ h:c=c',t=t'/\k=k'/\Ka h es=es')/\mI o o'
 | .bH t kk e tg es o i,.bH t' aBH e' bX es' o' i'=>(∃ (h:kk=aBH) (h':tg=bX),t=t'/\e=e'/\OU h h' es=es')/\mI o o'/\mI i i'
 | .iter (some r) k l,.iter (some r') k' l'=>(k=k'/\l=l')/\r'<n/\r<m/\r=rn is r'
 | .iter none k l,.iter none k' l'=>k=k'/\l=l'
 | .lp b s L q j,.lp b' s' L' q' j'=>Kv is m n s s'/\b=b'/\L=L'/\q=q'/\j=j'
 |_,_=>False
def Bm:az->Prop
 | .dead=>True
 | .arr _ tg xs _ _=>xs=[]/\tg≠[]
 |_=>False
def Ff (is:List Nat) (m n:Nat) (rg:List az):Nat->List az->Prop
 |_,[]=>True
 |k,y::ys=>(match Nat.blt (rn is k) m with|true=>DQ is m n (rg.getD (rn is k) .dead) y|false=>Bm y)/\Ff is m n rg (k+1) ys
def AT (is:List Nat) (m:Nat):Nat->List Nat->Bool
 |0,_=>true
 |n+1,seen=>match Nat.blt (rn is n) m with
  |false=>AT is m n seen
  |true=>(match Vq (rn is n) seen with|true=>false|false=>AT is m n (rn is n::seen))
def Le (is:List Nat) (st an:St):Prop:=
 aBK st.rg (fun m=>aBK an.rg (fun n=>Kv is m n st.tm an.tm/\NU is m n st.fr an.fr/\Ff is m n st.rg 0 an.rg/\AT is m n []=true))
def C3 (F:St->(Ex->St->Prop)->Prop) (st:St) (K:Ex->St->Prop):Prop:=
 ∃ (X:Type) (I:X->Prop) (S:X->St) (μ:X->Nat) (x0:X) (PY:List Nat),I x0/\Le PY st (S x0)/\
  ∀ x,I x->F (S x) (fun e an=>match e with
   | .normal=>∃ (x':X) (is:List Nat),I x'/\Le is an (S x')/\μ x'<μ x
   |e=>K e an)
def D4 (f:St->(Ex->St->Prop)->Prop) (n:Nat):St->(Ex->St->Prop)->Prop:=
 Nat.rec (motive:=fun _=>St->(Ex->St->Prop)->Prop) (fun _ _=>False)
  (fun _ ih st K=>f st (fun e an=>match e with| .normal=>ih an K|e=>K e an)) n
def Ai (f:St->(Ex->St->Prop)->Prop) (n:Nat) (st:St) (K:Ex->St->Prop):Prop:=
 match n with
 |0=>C3 f st K
 |n+1=>D4 f (n+1) st K
def az1:Code->Bool
 | .rangeFunc _ _ _ _=>true
 |_=>false
def ayx:Code->Bool
 | .block _ c=>az1 c
 |_=>false
def az2:Code->Bool
 | .seq _ c=>ayx c
 |_=>false
def avl:Code->Bool
 | .seq _ c=>ayx c
 | .block _ c=>az2 c
 |_=>false
def Env.aBf (E:Env):Code->Bool
 | .seq _ (.cond (.tmp t) _ _)=>E.cut t
 | .region id _ draw=>match draw with|true=>(match E.cut (1000+id)with|true=>true|false=>E.cut (2000+id))|false=>E.cut (1000+id)
 |c=>match E.cut 3000 with|true=>avl c|false=>false
def akd (E:Env) (cl:Cl) (rn:Option (Nat×Nat)) (g:Operand) (ps:Array Tmp) (kU body:Code) (st:St) (K:Ex->St->Prop):Prop:=
 match ev st g with
 |some (.a (.fn f aBd))=>
  (match E.ct f,E.inl f with
   |none,some b=>
    (match rn with
     |none=>True
     |some (r0,b0)=>(match st.rg.getD r0 .dead with| .lp b1 _ _ _ _=>b1=b0|_=>False))/\
    ∀ (l:Nat) (fn:FuncId) (T:Array Value) (D:Nat),fy E.aN st.rg (fun r=>
     St.dN st [.lp l st.tm {state:=.ready,pending:=none,fn:=fn,tmps:=T,params:=ps,assign:=kU,body:=body,defers:=D} .ready none]
      (fun st=>cl b (.a (.yl r)::aBd.map (fun r=> .a (.p r [] 0 0))) st (fun _ an=>
        match an.rg.getD r .dead with
        | .lp l' _ _ q j=>l'=l/\St.eP an r .dead (fun st=>match q,j with
           | .ready,none=>K .normal st
           | .done,some .ret=>K .ret st
           | .done,some (.exit id)=>K (.exit id) st
           |_,_=>False)
        |_=>False)))
   |_,_=>False)
 |_=>False
def sC (o:Oper):Bool:=match o.op with| .defer _=>false|_=>true
def jD (E:Env) (cl:Cl) (rd:Rd) (rn:Option (Nat×Nat)) (c:Code):St->(Ex->St->Prop)->Prop:=
 Code.rec (motive:=fun _=>St->(Ex->St->Prop)->Prop)
  (fun st K=>K .normal st)
  (fun id ops draw st K=>match draw with
    |true=>(match rn with|none=>Z5 E cl id ops.toList st (K .normal)|some _=>(match bZ sC ops.toList with|true=>Z5 E cl id ops.toList st (K .normal)|false=>False))
    |false=>om E cl rd ops ops.toList st (K .normal))
  (fun a _ fa fb st K=>match E.aBf a with
    |true=>∃ (X:Type) (I:X->Prop) (S:X->St),fa st (fun e an=>match e with| .normal=>∃ (x:X) (is:List Nat),I x/\Le is an (S x)|e=>K e an)/\∀ x,I x->fb (S x) K
    |false=>fa st (fun e st=>match e with| .normal=>fb st K|e=>K e st))
  (fun c _ _ fa fb st K=>match ev st c with
    |some (.a .tt)=>fa st K
    |some (.a .ff)=>fb st K
    |some (.a (.v (.bool t)))=>(match E.aN with|true=>(match t with|true=>fa st K|false=>fb st K)|false=>(t=true->fa st K)/\(t=false->fb st K))
    |_=>False)
  (fun id _ f st K=>f st (fun e st=>match e with
    | .exit id'=>(match Nat.beq id id' with|true=>K .normal st|false=>K (.exit id') st)
    |e=>K e st))
  (fun _ f st K=>Ai f E.un st K)
  (fun g ps kU body _ _ st K=>akd E cl rn g ps kU body st K)
  (fun id st K=>K (.exit id) st)
  (fun _ f st K=>match rn with|none=>f st K|some _=>False) (fun _ st K=>K .normal st) (fun _ _ _=>False)
  (fun st K=>K .ret st)
  (fun _ _ _=>False) c
/-! ### Functions -/
def qA (E:Env) (st:St):ResultVar->Option (List aa×Tm)
 | .tmp t=>some ([],st.tm.get t)
 | .cell a t=>qw E st t (st.tm.get a)
def aBl (E:Env) (st:St):List ResultVar->Option (List aa×List C1)
 |[]=>some ([],[])
 |r::rs=>
  match qA E st r,aBl E st rs with
  |some (q,t),some (q',l)=>(match II t with|some c=>some (q++q',c::l)|none=>none)
  |_,_=>none
def nl (E:Env) (st:St) (rs:List ResultVar):Option (List aa×Tm):=
 match rs with
 |[r]=>qA E st r
 |rs=>(match aBl E st rs with|some (q,l)=>some (q,.bF l)|none=>none)
def Tr.full:Nat->Tr
 |0=> .nil
 |d+1=> .node (.a .un) (Tr.full d) (Tr.full d)
def jg (n:Nat):Nat:=Nat.log2 (n+1)+1
def Ft (l:List Tm) (i:Nat) (t:Tr) (k:Tr->Prop):Prop:=
 List.rec (motive:=fun _=>Nat->Tr->(Tr->Prop)->Prop) (fun _ t k=>k t) (fun x _ ih i t k=>agI x (fun x=>t.aBS i x (fun t=>ih (i+1) t k))) l i t k
def EY (d:Nat) (k:Tr->Prop):Prop:=
 Nat.rec (motive:=fun _=>(Tr->Prop)->Prop) (fun k=>k .nil) (fun _ ih k=>ih (fun t=>k (.node (.a .un) t t))) d k
def qJ (n:Nat) (args:List Tm) (k:Sl->Prop):Prop:=aBK args (fun m=>match Nat.ble m n with|true=>EY (jg n) (fun t=>Ft args 0 t (fun t=>k ⟨n,t⟩))|false=>False)
def GG (E:Env) (go:Code->St->(Ex->St->Prop)->Prop):Cl:=fun b args st K=>
 match st with
 |⟨tm,fr,rg⟩=>qJ b.n args (fun s=>go b.code ⟨s,tm::fr,rg⟩ (fun e an=>match e with
  | .exit _=>False
  |_=>(match nl E an b.rs with
   |some (q,x)=>aBP E.aN q (match an with|⟨_,H9::fr',cE⟩=>K x ⟨H9,fr',cE⟩|_=>False)
   |none=>False)))
def Fp (ps:List Nat):List Tm->Sl->(Sl->Prop)->Prop:=
 List.rec (motive:=fun _=>List Tm->Sl->(Sl->Prop)->Prop)
  (fun args s k=>match args with|[]=>k s|_=>False)
  (fun p _ ih args s k=>match args,s with
    |x::args,⟨n,t⟩=>(match Nat.blt p n with|true=>agI x (fun x=>t.aBS p x (fun t=>ih args ⟨n,t⟩ k))|false=>False)
    |_,_=>False) ps
def nG (e:Ex) (k:LoopState->Option Code->At->Prop):Prop:=
 match e with
 | .normal=>k .ready none .tt
 | .ret=>k .done (some .ret) .ff
 | .exit id=>k .done (some (.exit id)) .ff
def wF (go:Option (Nat×Nat)->Code->St->(Ex->St->Prop)->Prop):Rd:=fun r args st K=>
 match st with
 |⟨tm,fr,rg⟩=>(match rg.getD r .dead with
  | .lp l s L .ready _=>Fp L.params.toList args s (fun s'=>go (some (r,l)) L.assign ⟨s',tm::fr,rg⟩ (fun e aIT=>match e with
     | .normal=>(match aIT.rg.getD r .dead with
        | .lp l1 s1 L1 .ready j1=>l1=l/\St.eP aIT r (.lp l1 s1 L1 .busy j1) (fun oM=>go (some (r,l)) L.body oM (fun e On=>match On with
           |⟨_,Ov::M0,HT⟩=>(match HT.getD r .dead with
             | .lp l3 s3 L3 .busy _=>l3=l/\nG e (fun q j x=>St.eP ⟨Ov,M0,HT⟩ r (.lp l3 s3 L3 q j) (fun st=>K (.a x) st))
             |_=>False)
           |_=>False))
        |_=>False)
     |_=>False))
  |_=>False)
def MC (E:Env) (n:Nat):Option (Nat×Nat)->Code->St->(Ex->St->Prop)->Prop:=
 Nat.rec (motive:=fun _=>Option (Nat×Nat)->Code->St->(Ex->St->Prop)->Prop) (fun rn c=>jD E (fun _ _ _ _=>False) (fun _ _ _ _=>False) rn c) (fun _ ih rn c=>jD E (GG E (ih none)) (wF ih) rn c) n
def GA:At->At->Prop
 | .tt,.tt=>True
 | .ff,.ff=>True
 | .tt,.v (.bool b)=>b=true
 | .ff,.v (.bool b)=>b=false
 | .v (.bool b),.tt=>b=true
 | .v (.bool b),.ff=>b=false
 |_,.any=>True
 | .p r π i j,.p r' aW i' j'=>r=r'/\π=aW/\i=i'/\j=j'
 | .sl r π lo n,.sl r' aW lo' n'=>r=r'/\π=aW/\lo=lo'/\n=n'
 | .fn f l,.fn f' l'=>f=f'/\l=l'
 | .mp r,.mp r'=>r=r'
 | .it r,.it r'=>r=r'
 | .yl r,.yl r'=>r=r'
 | .un,.un=>True
 | .z,.z=>True
 | .err,.err=>True
 | .v (.slice none 0 0),.z=>True
 | .v (.int k a),.v (.int k' b)=>k=k'/\a=b
 | .v (.bool a),.v (.bool b)=>a=b
 | .v x,.v y=>x=y
 |_,_=>False
def EQ:List At->List At->Prop
 |[],[]=>True
 |x::xs,y::ys=>GA x y/\EQ xs ys
 |_,_=>False
def Pv:C1->C1->Prop
 | .a x,.a y=>GA x y
 | .agg l,.agg l'=>EQ l l'
 |_,_=>False
def Vm:List C1->List C1->Prop
 |[],[]=>True
 |x::xs,y::ys=>Pv x y/\Vm xs ys
 |_,_=>False
def iL:Tm->Tm->Prop
 | .a x,.a y=>GA x y
 | .agg l,.agg l'=>EQ l l'
 | .bF l,.bF l'=>Vm l l'
 |_,_=>False
end Go.Sy
end
section
namespace Go.Sy
open Go Go.RowKit
universe u
structure RI where
 b:Nat
 off:Nat
 m:Nat
 cap:Nat
 aC:Bool
def RI.at (I:RI) (o:Nat):Addr:=⟨I.b,I.off+o,none⟩
abbrev Keys:=Nat->Path->RI
def RI.head (I:RI) (lo n:Nat) (y:Value):Prop:=
 (I.aC=true->n=0/\∃ a,y= .slice a 0 0)/\
 (I.aC=false->lo+n<=I.cap/\∃ a,y= .slice a n (I.cap-lo)/\(lo<I.cap->a=some (I.at (lo*I.m))))
def At.ok (N:Nat) (ρ:Keys):At->Value->Prop
 | .any,_=>True
 | .un,y=>y=undef
 | .v x,y=>y=x/\x.oneCell'=true
 | .tt,y=>y= .bool true
 | .ff,y=>y= .bool false
 | .p r π i j,y=>r<N/\y= .pointer (some ((ρ r π).at (i*(ρ r π).m+j)))
 | .sl r π lo n,y=>r<N/\(ρ r π).head lo n y
 | .z,y=>∃ a,y= .slice a 0 0
 | .fn f aBd,y=>(∀ r∈aBd,r<N)/\y= .func (.func f) #[] (aBd.map fun r=>Value.pointer (some ((ρ r []).at 0))).toArray
 | .mp r,y=>r<N/\y= .map (some (ρ r []).b)
 | .it r,y=>r<N/\y= .pointer (some ⟨(ρ r []).b,0,none⟩)
 | .yl r,y=>r<N/\y= .func (.yield (ρ r []).b) #[] #[]
 | .err,y=>∃ t v,y= .iface t v
def be {α β:Type} (R:α->β->Prop):List α->List β->Prop
 |[],[]=>True
 |x::xs,y::ys=>R x y/\be R xs ys
 |_,_=>False
def C1.ok (N:Nat) (ρ:Keys):C1->Value->Prop
 | .a x,y=>x.ok N ρ y
 | .agg l,y=>∃ ys,y= .agg ys.toArray/\be (At.ok N ρ) l ys
def Tm.ok (N:Nat) (ρ:Keys):Tm->Value->Prop
 | .a x,y=>x.ok N ρ y
 | .agg l,y=>∃ ys,y= .agg ys.toArray/\be (At.ok N ρ) l ys
 | .bF l,y=>∃ ys,y= .tuple ys.toArray/\be (C1.ok N ρ) l ys
structure Sl.ok (N:Nat) (ρ:Keys) (s:Sl) (vs:Array Value):Prop where
 n:vs.size=s.n
 h:∀ i,(s.t.get i).ok N ρ (vs.getD i undef)
/-! ### Contents -/
def Ar.has (A:Ar):Path->Ar->Prop
 |[],B=>B=A
 |(i,j)::π,C=>∃ B,A.has π B/\i<B.xs.length/\ai.sub B.tg (B.get i) j=some C
def CK.aA (η:Path->RI) (π:Path) (i j:Nat):(c:CK)->c.ty->Value->Prop
 | .int k,n,y=>y= .int k n
 | .bool,b,y=>y= .bool b
 | .str,s,y=>y= .string s
 | .sl _ _,(ys:List _),y=>(η ((i,j)::π)).head 0 ys.length y
def ai.aA (η:Path->RI) (π:Path) (i:Nat):Nat->(tg:List CK)->ai tg->List Value->Prop
 |_,[],_,ys=>ys=[]
 |j,[c],x,ys=>∃ y,ys=[y]/\c.aA η π i j x y
 |j,c::c'::cs,x,ys=>∃ y ys',ys=y::ys'/\c.aA η π i j x.1 y/\ai.aA η π i (j+1) (c'::cs) x.2 ys'
structure Ar.aA (w:World) (η:Path->RI) (π:Path) (A:Ar):Prop where
 tg:A.tg≠[]
 m:(η π).m=A.tg.length
 aC:(η π).aC=true->A.xs=[]
 len:(η π).aC=false->A.xs.length<=(η π).cap
 cell:∀ i,i<A.xs.length->∃ ys,ai.aA η π i 0 A.tg (A.get i) ys/\∀ s y,ys[s]?=some y->w.cell? ((η π).at (i*(η π).m+s))=some y
structure bY (M:Nat->Prop) (w0 w:World) (I:RI):Prop where
 own:M I.b\/w0.heap.size<=I.b
 fz:∀ j,w.frozen? ⟨I.b,j,none⟩=false
structure Whole (w:World) (I:RI) (te:TypeId):Prop where
 cap:I.cap<=maxLen
 blk:∃ cur:Array Value,w.heap[I.b]?=some (.cells cur te (0,0))/\cur.size=I.off+I.cap*I.m
def CK.val:(c:CK)->c.ty->Value
 | .int k,n=> .int k n
 | .bool,b=> .bool b
 | .str,s=> .string s
 | .sl _ _,_=> .slice none 0 0
def e8 (k:IntKind) (c:CK) (es:List (Int×c.ty)):List (Value×Value):=es.map fun p=>(.int k p.1,c.val p.2)
def ul (w:World) (b:Nat) (k:IntKind) (c:CK) (es:List (Int×c.ty)):Prop:=
 ∃ aD:Array MapEntry,w.heap[b]?=some (.map aD aD.size)/\aD.toList.map (fun e=>(e.key,e.val))=e8 k c es/\aD.toList.map (·.born)=List.range aD.size
def ai.a8:(tg:List CK)->ai tg->List Value
 |[],_=>[]
 |[c],x=>[c.val x]
 |c::c'::cs,x=>c.val x.1::ai.a8 (c'::cs) x.2
def kR (w:World) (b:Nat) (η:Path->RI) (kk tg:List CK) (es:List (ai kk×List (ai tg))):Prop:=
 ∃ aD:Array MapEntry,w.heap[b]?=some (.map aD aD.size)/\aD.size=es.length/\aD.toList.map (·.born)=List.range aD.size/\
  ∀ (j:Nat) (x:MapEntry),aD[j]?=some x->x.key= .agg (ai.a8 kk (es.getD j (ai.d kk,[])).1).toArray/\(η [(j,0)]).head 0 (es.getD j (ai.d kk,[])).2.length x.val
inductive aD0 where
 |bH (kk:List CK) (tg:List CK) (es:List (ai kk×List (ai tg)))
 |box (cells:List At)
 |arr (A:Ar)
 |map (k:IntKind) (c:CK) (es:List (Int×c.ty))
 |it (m:Option Nat) (n:Nat) (seen:List Nat)
 |lp (b:Nat) (s:Sl) (L:Loop) (q:LoopState) (j:Option Code)
def mH (π:Path) (o i:Bool):Bool:=match π with|[]=>o|_::_=>i
def az.has (g:az) (π:Path) (o:Bool) (B:aD0):Prop:=
 match g with
 | .box own cells=>π=[]/\o=own/\B= .box cells
 | .arr te tg xs own akl=>o=mH π own akl/\∃ A,Ar.has ⟨te,tg,xs⟩ π A/\B= .arr A
 | .map _ k c es own=>π=[]/\o=own/\B= .map k c es
 | .bH _ kk e tg es own akl=>(π=[]/\o=own/\B= .bH kk tg es)\/(∃ j,π=[(j,0)]/\o=akl/\j<es.length/\aaa tg=true/\B= .arr ⟨e,tg,(es.getD j (ai.d kk,[])).2⟩)
 | .iter m n l=>π=[]/\o=true/\B= .it m n l
 | .lp b s L q j=>π=[]/\o=true/\B= .lp b s L q j
 | .dead=>False
def aD0.aA (N:Nat) (ρ:Keys) (r:Nat) (π:Path) (w:World):aD0->Prop
 | .box cells=>π=[]/\(ρ r []).off=0/\(ρ r []).aC=false/\∀ j x,cells[j]?=some x->∃ y,x.ok N ρ y/\w.cell? ((ρ r []).at j)=some y
 | .arr A=>A.aA w (ρ r) π
 | .map k c es=>π=[]/\(ρ r []).aC=false/\ul w (ρ r []).b k c es
 | .bH kk tg es=>π=[]/\(ρ r []).aC=false/\kR w (ρ r []).b (ρ r) kk tg es
 | .it m n l=>π=[]/\(ρ r []).aC=false/\(∀ r',m=some r'->r'<N)/\w.heap[(ρ r []).b]?=some (.mapIter (m.map fun r'=>(ρ r' []).b) n l.reverse.toArray n)
 | .lp b s L q j=>π=[]/\(ρ r []).aC=false/\s.ok N ρ L.tmps/\w.heap[(ρ r []).b]?=some (.loop {L with state:=q,pending:=j})/\(ρ r []).b=b
def aD0.mine (M:Nat->Prop) (w0 w:World) (I:RI):aD0->Prop
 | .box _=>bY M w0 w I
 | .map _ _ _=>bY M w0 w I
 | .bH _ _ _=>bY M w0 w I
 | .it _ _ _=>bY M w0 w I
 | .lp _ _ _ _ _=>bY M w0 w I
 | .arr A=>bY M w0 w I/\Whole w I A.te
structure Frame (M:Nat->Prop) (w w':World):Prop where
 os:w'.os=w.os
 tape:w'.tape=w.tape
 output:w'.output=w.output
 size:w.heap.size<=w'.heap.size
 block:∀ k,k<w.heap.size->¬M k->w'.heap[k]?=w.heap[k]?
structure bn where
 n:Nat
 G:World->Prop
 st:∀ w w',G w->(∀ b,b<n->w'.heap[b]?=w.heap[b]?)->G w'
structure cA (M:Nat->Prop) (w0:World) (N:Nat) (ρ:Keys) (rg:List az) (w:World):Prop where
 blk:∀ (r:Nat) (g:az) π o B,rg[r]?=some g->g.has π o B->B.aA N ρ r π w
 lt:∀ (r:Nat) (g:az) π o B,rg[r]?=some g->g.has π o B->(ρ r π).aC=false->(ρ r π).b<w.heap.size
 own:∀ (r:Nat) (g:az) π B,rg[r]?=some g->g.has π true B->(ρ r π).aC=false->B.mine M w0 w (ρ r π)
 dj:∀ (r r':Nat) (g g':az) π aW o' B B',rg[r]?=some g->rg[r']?=some g'->g.has π true B->g'.has aW o' B'->(ρ r π).aC=false->(ρ r' aW).aC=false->
  ¬(r=r'/\π=aW)->(ρ r π).b≠(ρ r' aW).b
structure Fv where
 fs:List (Array Value)
 ds:List Deferred
structure Rel (Γ:bn) (M:Nat->Prop) (w0:World) (ρ:Keys) (st:St) (vs:Fv) (a:Act) (w:World):Prop where
 tm:st.tm.ok st.rg.length ρ a.tmps
 fr:be (Sl.ok st.rg.length ρ) st.fr vs.fs
 df:a.defers=vs.ds
 rs:cA M w0 st.rg.length ρ st.rg w
 bl:Frame M w0 w
 gl:Γ.G w
 gn:∀ b,b<Γ.n->¬M b/\b<w0.heap.size
/-! ### Lists in step -/
section
variable {α β:Type} {R R':α->β->Prop}
theorem be.length:∀ {xs:List α} {ys:List β},be R xs ys->xs.length=ys.length
 |[],[],_=>rfl
 |_::_,_::_,h=>by simp[be.length h.2]
theorem be.mono (hm:∀ x y,R x y->R' x y):∀ {xs:List α} {ys:List β},be R xs ys->be R' xs ys
 |[],[],_=>trivial
 |_::_,_::_,h=>⟨hm _ _ h.1,be.mono hm h.2⟩
theorem be.get:∀ {xs:List α} {ys:List β},be R xs ys->∀ (i:Nat) x,xs[i]?=some x->∃ y,ys[i]?=some y/\R x y
 |[],[],_,i,x,h=>by simp at h
 |x0::xs,y0::ys,h,0,x,hx=>by simp at hx;subst hx;exact⟨y0,by simp,h.1⟩
 |x0::xs,y0::ys,h,i+1,x,hx=>by
  obtain⟨y,hy,hr⟩:=be.get h.2 i x (by simpa using hx)
  exact⟨y,by simpa using hy,hr⟩
theorem be.set:∀ {xs:List α} {ys:List β},be R xs ys->∀ i x y,R x y->be R (xs.set i x) (ys.set i y)
 |[],[],_,_,_,_,_=>trivial
 |_::_,_::_,h,0,_,_,hr=>⟨hr,h.2⟩
 |_::_,_::_,h,i+1,x,y,hr=>⟨h.1,be.set h.2 i x y hr⟩
theorem be.append:∀ {xs xs':List α} {ys ys':List β},be R xs ys->be R xs' ys'->be R (xs++xs') (ys++ys')
 |[],_,[],_,_,h'=>h'
 |_::_,_,_::_,_,h,h'=>⟨h.1,be.append h.2 h'⟩
theorem be.take:∀ {xs:List α} {ys:List β},be R xs ys->∀ n,be R (xs.take n) (ys.take n)
 |[],[],_,n=>by cases n<;>exact trivial
 |_::_,_::_,_,0=>trivial
 |_::_,_::_,h,n+1=>⟨h.1,be.take h.2 n⟩
theorem be.drop:∀ {xs:List α} {ys:List β},be R xs ys->∀ n,be R (xs.drop n) (ys.drop n)
 |[],[],_,n=>by cases n<;>exact trivial
 |_::_,_::_,h,0=>h
 |_::_,_::_,h,n+1=>be.drop h.2 n
theorem be.mk:∀ {xs:List α},(∀ (i:Nat) x,xs[i]?=some x->∃ y,R x y)->∃ ys,be R xs ys
 |[],_=>⟨[],trivial⟩
 |x::xs,h=>by
  obtain⟨y,hy⟩:=h 0 x (by simp)
  obtain⟨ys,hys⟩:=be.mk (xs:=xs) (fun i x hx=>h (i+1) x (by simpa using hx))
  exact⟨y::ys,hy,hys⟩
end
/-! ### The forcing words are what they wrap -/
theorem D6 {α:Type u}:∀ (l:List α) (i:Nat) (x:α) (k:List α->Prop),Og l i x k=k (l.set i x)
 |[],_,_,_=>rfl
 |_::_,0,_,_=>rfl
 |a::l,i+1,x,k=>D6 l i x fun l=>k (a::l)
theorem C8 {α:Type u}:∀ (l m:List α) (k:List α->Prop),Mk l m k=k (l++m)
 |[],_,_=>rfl
 |a::l,m,k=>C8 l m fun l=>k (a::l)
theorem mo {α:Type u} (l:List α) (k:Nat->Prop):aBK l k=k l.length:=by
 have gen:∀ (l:List α) (n:Nat),(List.rec (motive:=fun _=>Nat->(Nat->Prop)->Prop) (fun n k=>k n) (fun _ _ ih n k=>ih (Nat.succ n) k) l n k:Prop)=k (n+l.length):=by
  intro l;induction l with
  |nil=>intro n;rfl
  |cons x l ih=>intro n;show List.rec (motive:=fun _=>Nat->(Nat->Prop)->Prop) _ _ l (n+1) k=_;rw[ih];congr 1;simp only[List.length_cons];omega
 have:=gen l 0;rw[Nat.zero_add]at this;exact this
theorem dX {α:Type u} (c:Bool) (l:List α) (k:Nat->Prop):fy c l k=k l.length:=by
 cases c with
 |true=>unfold fy;dsimp only;cases l.length<;>rfl
 |false=>exact mo l k
theorem kZ {α β:Type u} {f:α->(β->Prop)->Prop} {g:α->β} (h:∀ x k,f x k=k (g x)):∀ (l:List α) (k:List β->Prop),fD f l k=k (l.map g)
 |[],_=>rfl
 |x::l,k=>by
  show f x (fun y=>fD f l (fun l=>k (y::l)))=_
  rw[h];exact kZ h l fun l=>k (g x::l)
theorem fx {α:Type u} {f:α->(α->Prop)->Prop} (h:∀ x k,f x k=k x) (l:List α) (k:List α->Prop):fD f l k=k l:=by
 rw[kZ (g:=id) h,List.map_id]
theorem G0 (x:Value) (k:Value->Prop):GZ x k=k x:=by cases x<;>rfl
theorem qI (x:At) (k:At->Prop):qH x k=k x:=by cases x<;>first|rfl|simp[qH,G0]
theorem o9 (l:List At) (k:List At->Prop):si l k=k l:=fx qI l k
theorem GY (x:C1) (k:C1->Prop):Aw x k=k x:=by cases x<;>simp[Aw,qI,o9]
theorem nr (x:Tm) (k:Tm->Prop):agI x k=k x:=by cases x<;>simp[agI,qI,o9,fx GY]
theorem nq (x:az) (k:az->Prop):ou x k=k x:=by cases x<;>simp[ou,o9]
theorem mr (m:Nat) (k:Nat->Prop):nW m k=k m:=by cases m<;>rfl
theorem Dk (c:Bool) (n:Nat) (k:Nat->Prop):IT c n k=k n:=by cases c;rfl;exact mr n k
theorem wJ (n:Int) (k:Int->Prop):E8 n k=k n:=by
 cases n with
 |ofNat m=>exact mr m (fun m=>k (.ofNat m))
 |negSucc m=>exact mr m (fun m=>k (.negSucc m))
theorem aH9 (b:Bool) (k:Bool->Prop):rX b k=k b:=by cases b<;>rfl
theorem F7 (s:ByteArray):byteOf (s.data.toList.map UInt8.toNat)=s:=by
 have:(s.data.toList.map UInt8.toNat).map UInt8.ofNat=s.data.toList:=by
  rw[List.map_map];conv=>rhs;rw[<-List.map_id s.data.toList]
  exact List.map_congr_left fun x _=>by simp
 unfold byteOf;rw[this]
theorem xq (s:ByteArray) (k:ByteArray->Prop):uw s k=k s:=by
 unfold uw;rw[kZ (g:=id) (fun x k=>mr x k),List.map_id,F7]
theorem Jp (c:Bool) (x:Value) (k:Value->Prop):Fk c x k=k x:=by
 cases c<;>cases x<;>simp[Fk,wJ,aH9,xq]
theorem pD (c:Bool) (x:At) (k:At->Prop):sA c x k=k x:=by cases c<;>cases x<;>simp[sA,Jp,mr]
theorem Jo (c:Bool) (x:C1) (k:C1->Prop):Fj c x k=k x:=by cases x<;>simp[Fj,pD,fx (pD c)]
theorem Bi (c:Bool) (x:Tm) (k:Tm->Prop):aBN c x k=k x:=by cases x<;>simp[aBN,pD,fx (pD c),fx (Jo c)]
mutual
theorem zX:∀ (c:CK) (x:c.ty) (k:c.ty->Prop),xB c x k=k x
 | .int _,x,k=>by unfold xB;exact wJ x k
 | .bool,x,k=>by unfold xB;exact aH9 x k
 | .str,x,k=>by unfold xB;exact xq x k
 | .sl _ tg,x,k=>by unfold xB;exact fx (xd tg) x k
theorem xd:∀ (tg:List CK) (x:ai tg) (k:ai tg->Prop),uf tg x k=k x
 |[],x,k=>by unfold uf;rfl
 |[c],x,k=>by unfold uf;exact zX c x k
 |c::c'::cs,x,k=>by
  unfold uf;rw[zX c x.1,xd (c'::cs) x.2];rfl
end
theorem Ld (c:CK) (p:Int×c.ty) (k:Int×c.ty->Prop):IZ c p k=k p:=by unfold IZ;rw[wJ,zX]
theorem tP (c:Bool) (x:az) (k:az->Prop):pE c x k=k x:=by
 cases c<;>cases x<;>simp[pE,aH9,fx (xd _),fx (Ld _)]
theorem Tr.oE:∀ (t:Tr) (i:Nat) (x:Tm) (k:Tr->Prop),t.aBS i x k=k (t.put i x)
 | .nil,_,_,_=>rfl
 | .node y l r,i,x,k=>by
   have e1:=Tr.oE l;have e2:=Tr.oE r;unfold Tr.aBS at e1 e2;unfold Tr.aBS;dsimp only;conv=>rhs;rw[Tr.put]
   split
   ·rfl
   ·split
    ·rw[e1]
    ·rw[e2]
theorem Tr.jF:∀ (t:Tr) (i:Nat) (x:Tm) (j:Nat),j≠i->(t.put i x).get j=t.get j
 | .nil,_,_,_,_=>rfl
 | .node y l r,i,x,j,hne=>by
   unfold Tr.put;split
   ·rename_i hi;have hi:=Nat.eq_of_beq_eq_true hi;unfold Tr.get;split
    ·rename_i hj;exact absurd ((Nat.eq_of_beq_eq_true hj).trans hi.symm) hne
    ·rfl
   ·rename_i hi;have hi:i≠0:=fun h=>by subst h;simp at hi
    split
    ·rename_i ho;have ho:=Nat.eq_of_beq_eq_true ho;unfold Tr.get;split
     ·rfl
     ·rename_i hj;have hj:j≠0:=fun h=>by subst h;simp at hj
      split
      ·rename_i DD;have DD:=Nat.eq_of_beq_eq_true DD;exact Tr.jF l (i / 2) x (j / 2) (by omega)
      ·rfl
    ·rename_i ho;have ho:i%2≠1:=fun h=>by rw[h]at ho;simp at ho
     unfold Tr.get;split
     ·rfl
     ·rename_i hj;have hj:j≠0:=fun h=>by subst h;simp at hj
      split
      ·rfl
      ·rename_i DD;have DD:j%2≠1:=fun h=>by rw[h]at DD;simp at DD
       exact Tr.jF r (i / 2-1) x (j / 2-1) (by omega)
theorem Tr.ake:∀ (t:Tr) (i:Nat) (x:Tm),(t.put i x).get i=x\/(t.put i x).get i= .a .any
 | .nil,_,_=> .inr rfl
 | .node y l r,i,x=>by
   unfold Tr.put;split
   ·rename_i hi
    left;unfold Tr.get;rw[hi]
   ·rename_i hi;split
    ·rename_i ho;unfold Tr.get;rw[hi,ho];exact Tr.ake l (i / 2) x
    ·rename_i ho;unfold Tr.get;rw[hi,ho];exact Tr.ake r (i / 2-1) x
theorem Tr.agQ (f:Tm->Tm):∀ (t:Tr) (k:Tr->Prop),t.gY f k=k (t.map f)
 | .nil,_=>rfl
 | .node x l r,k=>by
   have e1:=Tr.agQ f l;have e2:=Tr.agQ f r;unfold Tr.gY at e1 e2;unfold Tr.gY;dsimp only;rw[nr,e1,e2];rfl
theorem Tr.get_map {f:Tm->Tm} (hf:f (.a .any)= .a .any):∀ (t:Tr) (i:Nat),(t.map f).get i=f (t.get i)
 | .nil,_=>hf.symm
 | .node x l r,i=>by
   unfold Tr.map Tr.get;split
   ·rfl
   ·split
    ·exact Tr.get_map hf l _
    ·exact Tr.get_map hf r _
def St.map (f:At->At) (st:St):St:=⟨st.tm.map f,st.fr.map (Sl.map f),st.rg.map (az.mapA f)⟩
theorem Sl.agQ (f:At->At) (s:Sl) (k:Sl->Prop):s.gY f k=k (s.map f):=by
 cases s;simp only[Sl.gY,Tr.agQ];rfl
theorem St.agQ (f:At->At) (st:St) (k:St->Prop):st.gY f k=k (st.map f):=by
 cases st;simp only[St.gY,Sl.agQ,kZ (Sl.agQ f)];rw[kZ (g:=az.mapA f) (fun g k=>nq _ _)]
 rfl
def St.push (st:St) (gs:List az):St:=⟨st.tm,st.fr,st.rg++gs⟩
def St.aBZ (st:St) (r:Nat) (g:az):St:=⟨st.tm,st.fr,st.rg.set r g⟩
theorem St.cS (st:St) (gs:List az) (k:St->Prop):st.dN gs k=k (st.push gs):=by
 cases st;simp[St.dN,St.push,fx nq,C8]
theorem St.aks (st:St) (r:Nat) (g:az) (k:St->Prop):st.eP r g k=k (st.aBZ r g):=by
 cases st;simp[St.eP,St.aBZ,nq,D6]
theorem St.ag1 (c:Bool) (st:St) (r:Nat) (g:az) (k:St->Prop):St.jS c st r g k=k (st.aBZ r g):=by
 simp only[St.jS,tP,St.aks]
def St.fits (st:St):Option Nat->Prop
 |some d=>d<st.tm.n
 |none=>True
theorem St.aZ (st:St) (d:Option Nat) (x:Tm) (k:St->Prop):st.aBS d x k<->st.fits d/\k (st.put d x):=by
 obtain⟨⟨n,t⟩,fr,rg⟩:=st;cases d with
 |none=>simp[St.aBS,St.put,St.fits]
 |some d=>
  simp only[St.aBS,St.put,St.fits,Sl.put,nr,Tr.oE];cases h:Nat.blt d n with
  |true=>
   have hd:d<n:=Nat.le_of_ble_eq_true h;exact⟨fun hk=>⟨hd,hk⟩,fun hk=>hk.2⟩
  |false=>
   have hd:¬d<n:=fun hh=>by rw[show Nat.blt d n=true from Nat.ble_eq_true_of_le hh]at h;cases h
   exact⟨fun hk=>hk.elim,fun hk=>absurd hk.1 hd⟩
theorem St.gZ (E:Env) (st:St) (o:Oper) (x:Tm) (k:St->Prop):st.iF E o x k<->st.fits o.dst/\k (st.put o.dst x):=by
 unfold St.iF;split
 ·rw[Bi,St.aZ]
 ·split<;>simp[Bi,St.aZ]
theorem aAW (c:Bool) (st:St) (d:Option Nat) (r n:Nat) (k:St->Prop):iJ c st d r n k<->st.fits d/\k (st.put d (.a (.sl r [] 0 n))):=by
 unfold iJ;split
 ·rw[mr,St.aZ]
 ·rw[St.aZ]
theorem fp {c b:Bool} {p q:Prop} (hb:b=true->p) (h:iZ c b p q):p/\q:=by
 unfold iZ at h;cases c with
 |false=>exact h
 |true=>
  cases b with
  |true=>exact⟨hb rfl,h⟩
  |false=>exact h.elim
end Go.Sy
end
section
namespace Go.Sy
open Go Go.RowKit
universe u
/-! ### Growing -/
theorem At.ok.mono {N N':Nat} {ρ ρ':Keys} (hN:N<=N') (hρ:∀ r,r<N->∀ π,ρ' r π=ρ r π) {x:At} {y:Value} (h:x.ok N ρ y):x.ok N' ρ' y:=by
 cases x<;>try exact h
 case p r π i j=>
  obtain⟨h1,h2⟩:=h;exact⟨by omega,by rw[hρ r h1];exact h2⟩
 case sl r π lo n=>
  obtain⟨h1,h2⟩:=h;exact⟨by omega,by rw[hρ r h1];exact h2⟩
 case fn f aBd=>
  obtain⟨h1,h2⟩:=h;refine⟨fun r hr=>by have:=h1 r hr;omega,?_⟩
  rw[h2]
  congr 2
  exact List.map_congr_left fun r hr=>by rw[hρ r (h1 r hr)]
 case mp r=>
  obtain⟨h1,h2⟩:=h;exact⟨by omega,by rw[hρ r h1];exact h2⟩
 case it r=>
  obtain⟨h1,h2⟩:=h;exact⟨by omega,by rw[hρ r h1];exact h2⟩
 case yl r=>
  obtain⟨h1,h2⟩:=h;exact⟨by omega,by rw[hρ r h1];exact h2⟩
theorem rA {N N':Nat} {ρ ρ':Keys} (hN:N<=N') (hρ:∀ r,r<N->∀ π,ρ' r π=ρ r π) {l:List At} {ys:List Value} (h:be (At.ok N ρ) l ys):be (At.ok N' ρ') l ys:=
 h.mono fun _ _ h=>h.mono hN hρ
theorem C1.ok.mono {N N':Nat} {ρ ρ':Keys} (hN:N<=N') (hρ:∀ r,r<N->∀ π,ρ' r π=ρ r π) {x:C1} {y:Value} (h:x.ok N ρ y):x.ok N' ρ' y:=by
 cases x with
 |a x=>exact At.ok.mono hN hρ h
 |agg l=>obtain⟨ys,h1,h2⟩:=h;exact⟨ys,h1,rA hN hρ h2⟩
theorem Tm.ok.mono {N N':Nat} {ρ ρ':Keys} (hN:N<=N') (hρ:∀ r,r<N->∀ π,ρ' r π=ρ r π) {x:Tm} {y:Value} (h:x.ok N ρ y):x.ok N' ρ' y:=by
 cases x with
 |a x=>exact At.ok.mono hN hρ h
 |agg l=>obtain⟨ys,h1,h2⟩:=h;exact⟨ys,h1,rA hN hρ h2⟩
 |bF l=>obtain⟨ys,h1,h2⟩:=h;exact⟨ys,h1,h2.mono fun _ _ h=>h.mono hN hρ⟩
theorem Sl.ok.mono {N N':Nat} {ρ ρ':Keys} (hN:N<=N') (hρ:∀ r,r<N->∀ π,ρ' r π=ρ r π) {s:Sl} {vs:Array Value} (h:s.ok N ρ vs):s.ok N' ρ' vs:=
 ⟨h.n,fun i=>(h.h i).mono hN hρ⟩
theorem CK.aA.congr {η bU:Path->RI} {π:Path} {i j:Nat} (he:∀ ij,bU (ij::π)=η (ij::π)):∀ {c:CK} {x:c.ty} {y:Value},c.aA η π i j x y->c.aA bU π i j x y
 | .int _,_,_,h=>h
 | .bool,_,_,h=>h
 | .str,_,_,h=>h
 | .sl _ _,_,_,h=>by
   show RI.head (bU ((i,j)::π)) 0 _ _;rw[he];exact h
theorem ai.aA.congr {η bU:Path->RI} {π:Path} {i:Nat} (he:∀ ij,bU (ij::π)=η (ij::π)):∀ {tg:List CK} {j:Nat} {x:ai tg} {ys:List Value},ai.aA η π i j tg x ys->ai.aA bU π i j tg x ys
 |[],_,_,_,h=>h
 |[c],_,_,_,h=>by obtain⟨y,h1,h2⟩:=h;exact⟨y,h1,h2.congr he⟩
 |c::c'::cs,_,_,_,h=>by obtain⟨y,ys',h1,h2,h3⟩:=h;exact⟨y,ys',h1,h2.congr he,h3.congr (tg:=c'::cs) he⟩
theorem Ar.aA.cX {w w':World} {η bU:Path->RI} {π:Path} {A:Ar} (he:∀ σ,bU σ=η σ) (hb:(η π).aC=false->w'.heap[(η π).b]?=w.heap[(η π).b]?) (h:A.aA w η π):A.aA w' bU π where
 tg:=h.tg
 m:=by rw[he];exact h.m
 aC:=by rw[he];exact h.aC
 len:=by rw[he];exact h.len
 cell:=fun i hi=>by
  obtain⟨ys,h1,h2⟩:=h.cell i hi;refine⟨ys,h1.congr fun ij=>he _,fun s y hy=>?_⟩
  rw[he];have hv:(η π).aC=false:=by
   cases hh:(η π).aC with
   |false=>rfl
   |true=>rw[h.aC hh]at hi;simp at hi
  rw[show w'.cell? ((η π).at (i*(η π).m+s))=w.cell? ((η π).at (i*(η π).m+s))from World.cell?_of_block (w:=w) (hb hv)];exact h2 s y hy
theorem aD0.aA.cX {N N':Nat} {ρ ρ':Keys} {r:Nat} {π:Path} {w w':World} {B:aD0} (he:∀ π,ρ' r π=ρ r π) (hN:N<=N') (hρ:∀ r,r<N->∀ π,ρ' r π=ρ r π)
 (hb:(ρ r π).aC=false->w'.heap[(ρ r π).b]?=w.heap[(ρ r π).b]?) (h:B.aA N ρ r π w):B.aA N' ρ' r π w':=by
 cases B with
 |box cells=>
  obtain⟨rfl,h1,h2,h3⟩:=h;refine⟨rfl,by rw[he];exact h1,by rw[he];exact h2,fun j x hx=>?_⟩
  obtain⟨y,hy,hc⟩:=h3 j x hx;refine⟨y,hy.mono hN hρ,?_⟩;rw[he];rw[show w'.cell? ((ρ r []).at j)=w.cell? ((ρ r []).at j)from World.cell?_of_block (w:=w) (hb h2)];exact hc
 |arr A=>exact Ar.aA.cX he hb h
 |map k c es=>
  obtain⟨rfl,h1,aD,h2,h3,h4⟩:=h;exact⟨rfl,by rw[he];exact h1,aD,by rw[he,hb h1];exact h2,h3,h4⟩
 |bH kk tg es=>
  obtain⟨rfl,h1,aD,h2,h3,h4,h5⟩:=h;exact⟨rfl,by rw[he];exact h1,aD,by rw[he,hb h1];exact h2,h3,h4,fun j x hx=>by rw[he];exact h5 j x hx⟩
 |it m n l=>
  obtain⟨rfl,h1,h2,h3⟩:=h;refine⟨rfl,by rw[he];exact h1,fun r' hr'=>Nat.lt_of_lt_of_le (h2 r' hr') hN,?_⟩
  rw[he,hb h1,h3];cases m with
  |none=>rfl
  |some r'=>simp only[Option.map_some];rw[hρ r' (h2 r' rfl)]
 |lp b s L q j=>
  obtain⟨rfl,h1,h2,h3,h4⟩:=h;exact⟨rfl,by rw[he];exact h1,h2.mono hN hρ,by rw[he,hb h1];exact h3,by rw[he];exact h4⟩
theorem bY.cX {M:Nat->Prop} {w0 w w':World} {I:RI} (hb:w'.heap[I.b]?=w.heap[I.b]?) (h:bY M w0 w I):bY M w0 w' I:=
 ⟨h.own,fun j=>by rw[World.frozen?_of_block (w:=w) (a:=⟨I.b,j,none⟩) hb];exact h.fz j⟩
theorem Whole.cX {w w':World} {I:RI} {te:TypeId} (hb:w'.heap[I.b]?=w.heap[I.b]?) (h:Whole w I te):Whole w' I te:=
 ⟨h.cap,by obtain⟨cur,h1,h2⟩:=h.blk;exact⟨cur,by rw[hb];exact h1,h2⟩⟩
theorem aD0.mine.cX {M:Nat->Prop} {w0 w w':World} {I:RI} {B:aD0} (hb:w'.heap[I.b]?=w.heap[I.b]?) (h:B.mine M w0 w I):B.mine M w0 w' I:=by
 cases B with
 |box cells=>exact bY.cX hb h
 |arr A=>exact⟨bY.cX hb h.1,Whole.cX hb h.2⟩
 |map k c es=>exact bY.cX hb h
 |bH kk tg es=>exact bY.cX hb h
 |it=>exact bY.cX hb h
 |lp=>exact bY.cX hb h
theorem cA.cX {M:Nat->Prop} {w0 w w':World} {N:Nat} {ρ:Keys} {rg:List az} (hs:w.heap.size<=w'.heap.size) (hb:∀ b,b<w.heap.size->w'.heap[b]?=w.heap[b]?) (h:cA M w0 N ρ rg w):cA M w0 N ρ rg w' where
 blk:=fun r g π o B h1 h2=>(h.blk r g π o B h1 h2).cX (fun _=>rfl) (Nat.le_refl _) (fun _ _ _=>rfl) (fun hv=>hb _ (h.lt r g π o B h1 h2 hv))
 lt:=fun r g π o B h1 h2 hv=>Nat.lt_of_lt_of_le (h.lt r g π o B h1 h2 hv) hs
 own:=fun r g π B h1 h2 hv=>(h.own r g π B h1 h2 hv).cX (hb _ (h.lt r g π true B h1 h2 hv))
 dj:=h.dj
theorem Frame.refl (M:Nat->Prop) (w:World):Frame M w w:=⟨rfl,rfl,rfl,Nat.le_refl _,fun _ _ _=>rfl⟩
theorem Frame.below {M:Nat->Prop} {w0 w w':World} (h:Frame M w0 w) (hb:Below w.heap.size w w'):Frame M w0 w':=
 ⟨hb.os.trans h.os,hb.tape.trans h.tape,hb.output.trans h.output,Nat.le_trans h.size hb.size,fun k hk hm=>(hb.block k (Nat.lt_of_lt_of_le hk h.size)).trans (h.block k hk hm)⟩
section
variable {P:Program} {Γ:bn} {E:Env} {M:Nat->Prop} {w0:World} {ρ:Keys} {st:St} {vs:Fv} {a:Act} {w:World}
theorem Rel.cX (h:Rel Γ M w0 ρ st vs a w) {w':World} (hb:Below w.heap.size w w'):Rel Γ M w0 ρ st vs a w' where
 tm:=h.tm
 fr:=h.fr
 df:=h.df
 rs:=h.rs.cX hb.size hb.block
 bl:=h.bl.below hb
 gl:=Γ.st _ _ h.gl fun b hlt=>hb.block b (Nat.lt_of_lt_of_le (h.gn b hlt).2 h.bl.size)
 gn:=h.gn
theorem Sl.ok.put {N:Nat} {s:Sl} {xs:Array Value} (h:s.ok N ρ xs) (d:Nat) {x:Tm} {y:Value} (hx:x.ok N ρ y):(s.put d x).ok N ρ (xs.setIfInBounds d y):=by
 unfold Sl.put;split
 ·rename_i hd;have hd:d<s.n:=Nat.le_of_ble_eq_true hd;refine⟨by simpa using h.n,fun i=>?_⟩
  show((s.t.put d x).get i).ok N ρ _;by_cases hi:i=d
  ·subst hi;rcases Tr.ake s.t i x with hg|hg
   ·rw[hg];have:(xs.setIfInBounds i y).getD i undef=y:=by
     simp[Array.getD,h.n,hd]
    rw[this];exact hx
   ·rw[hg];trivial
  ·rw[Tr.jF _ _ _ _ hi];have:(xs.setIfInBounds d y).getD i undef=xs.getD i undef:=by
    simp only[Array.getD_eq_getD_getElem?,Array.getElem?_setIfInBounds,if_neg (Ne.symm hi)]
   rw[this];exact h.h i
 ·rename_i hd;have hd:¬d<s.n:=fun hh=>by rw[show Nat.blt d s.n=true from Nat.ble_eq_true_of_le hh]at hd;cases hd
  have:xs.setIfInBounds d y=xs:=Array.setIfInBounds_eq_of_size_le (by rw[h.n];exact Nat.le_of_not_lt hd)
  rw[this];exact h
end
end Go.Sy
end
section
namespace Go.Sy
open Go Go.MapKept
def eG {α:Type}:List (Int×α)->Int->Option (Nat×α)
 |[],_=>none
 |(k,v)::es,n=>match k==n with
  |true=>some (0,v)
  |false=>(match eG es n with|some (j,v)=>some (j+1,v)|none=>none)
theorem yf {α:Type} (d:α):∀ (es:List (Int×α)) (n:Int),aO es n d=(match eG es n with|some (_,v)=>v|none=>d)
 |[],_=>rfl
 |(k,v)::es,n=>by
  unfold aO eG;cases k==n with
  |true=>rfl
  |false=>
   simp only;rw[yf d es n];cases eG es n<;>rfl
theorem yg {α:Type}:∀ (es:List (Int×α)) (n:Int),wO es n=(eG es n).isSome
 |[],_=>rfl
 |(k,v)::es,n=>by
  unfold wO eG;cases k==n with
  |true=>rfl
  |false=>
   simp only;rw[yg es n];cases eG es n<;>rfl
theorem findNow_spec (k:IntKind) (c:CK) (n:Int):∀ (es:List (Int×c.ty)) (aD:List MapEntry) (i:Nat),aD.map (fun e=>(e.key,e.val))=e8 k c es->
 Instr.findNow (.int k) (.int k n) aD i=some (match eG es n with|some (j,v)=>some (i+j,c.val v)|none=>none)
 |[],aD,i,h=>by
  cases aD with
  |nil=>rfl
  |cons=>simp[e8]at h
 |(m,v)::es,aD,i,h=>by
  cases aD with
  |nil=>simp[e8]at h
  |cons e aD=>
   simp only[e8,List.map_cons,List.cons.injEq,Prod.mk.injEq]at h;obtain⟨⟨h1,h2⟩,h3⟩:=h;have ih:=findNow_spec k c n es aD (i+1) h3;unfold Instr.findNow eG;rw[h1,h2,ih];have e1:Instr.sameNow (.int k) (.int k n) (.int k m)=some (n==m):=by
    show(if k=k then some (n==m)else none)=_
    rw[if_pos rfl]
   rw[e1];have e2:(m==n)=(n==m):=by rw[Bool.eq_iff_iff,beq_iff_eq,beq_iff_eq];exact⟨Eq.symm,Eq.symm⟩
   rw[e2];cases n==m with
   |true=>rfl
   |false=>
    simp only;cases eG es n with
    |none=>rfl
    |some jv=>simp;omega
theorem aIk {α:Type}:∀ {es:List (Int×α)} {n:Int} {j:Nat} {v:α},eG es n=some (j,v)->es[j]?=some (n,v)
 |(k,w)::es,n,j,v,h=>by
  unfold eG at h;split at h
  ·rename_i hk;obtain⟨rfl,rfl⟩:=Prod.mk.inj (Option.some.inj h);simp at hk;simp[hk]
  ·split at h
   ·rename_i j' v' hh;obtain⟨rfl,rfl⟩:=Prod.mk.inj (Option.some.inj h);simpa using aIk hh
   ·cases h
theorem yh {α:Type}:∀ {es:List (Int×α)} {n:Int} (v:α),eG es n=none->dF es n v=es++[(n,v)]
 |[],_,_,_=>rfl
 |(k,w)::es,n,v,h=>by
  unfold eG at h;unfold dF;split at h
  ·cases h
  ·rename_i hk;split at h
   ·cases h
   ·rename_i hh;try rw[hk]
    simp only[List.cons_append];rw[yh v hh]
theorem yj {α:Type}:∀ {es:List (Int×α)} {n:Int} {j:Nat} {u:α} (v:α),eG es n=some (j,u)->dF es n v=es.set j (n,v)
 |(k,w)::es,n,j,u,v,h=>by
  unfold eG at h;unfold dF;split at h
  ·rename_i hk;obtain⟨rfl,rfl⟩:=Prod.mk.inj (Option.some.inj h);first|(rw[hk];rfl)|rfl
  ·rename_i hk;split at h
   ·rename_i j' v' hh;obtain⟨rfl,rfl⟩:=Prod.mk.inj (Option.some.inj h);try rw[hk]
    simp only[List.set_cons_succ];rw[yj v hh]
   ·cases h
section
variable {P:Program} {w:World}
theorem oH {t kt et:TypeId} {k:IntKind} {c:CK} {d:c.ty} (hu:P.underlying t=some (.map kt et)) (hk:P.underlying kt=some (.int k)) (hz:(zeroValue et).run P w= .ok (c.val d) w) {b:Nat} {aD:Array MapEntry} {clock:Nat}
 (hb:w.heap[b]?=some (.map aD clock)) {es:List (Int×c.ty)} (he:aD.toList.map (fun e=>(e.key,e.val))=e8 k c es) (n:Int) (ok:Bool):
 (Instr.lookup t (.map (some b)) (.int k n) ok).run P w= .ok (if ok then .tuple #[c.val (aO es n d),.bool (wO es n)]else c.val (aO es n d)) w:=by
 have hf:=run_findKey (w:=w) hk (findNow_spec k c n es aD.toList 0 he);have hc:=run_checkKey (w:=w) (k:=.int k n) hk (by simp[IsKey]) aD.isEmpty 9999
 unfold Instr.lookup;simp only[Sem.run_bind,run_underlying hu,Result.andThen_ok,Go.MapKept.run_getObj_map hb,Sem.run_pure,hc,hf];rw[yf,yg];cases eG es n with
 |none=>simp only[hz,Sem.run_bind,Sem.run_pure,Result.andThen_ok];cases ok<;>rfl
 |some jv=>obtain⟨j,v⟩:=jv;cases ok<;>rfl
theorem oI {t kt et:TypeId} {k:IntKind} {c:CK} {d:c.ty} (hu:P.underlying t=some (.map kt et)) (hk:P.underlying kt=some (.int k)) (hz:(zeroValue et).run P w= .ok (c.val d) w) (n:Int) (ok:Bool):
 (Instr.lookup t (.map none) (.int k n) ok).run P w= .ok (if ok then .tuple #[c.val d,.bool false]else c.val d) w:=by
 have hf:=run_findKey (w:=w) hk (findNow_spec k c n [] [] 0 rfl);have hc:=run_checkKey (w:=w) (k:=.int k n) hk (by simp[IsKey]) (Array.isEmpty (#[]:Array MapEntry)) 9999
 unfold Instr.lookup;simp only[Sem.run_bind,run_underlying hu,Result.andThen_ok,Sem.run_pure,hc];rw[hf];simp only[eG,Result.andThen_ok,Sem.run_bind,hz,Sem.run_pure]
theorem sM {t kt et:TypeId} {k:IntKind} {c:CK} (hu:P.underlying t=some (.map kt et)) (hk:P.underlying kt=some (.int k)) {b:Nat} {es:List (Int×c.ty)} (h:ul w b k c es) (n:Int) (v:c.ty):
 ∃ kF:Array MapEntry,(Instr.mapUpdate t (.map (some b)) (.int k n) (c.val v)).run P w= .ok () {w with heap:=w.heap.setIfInBounds b (.map kF kF.size)}/\
  kF.toList.map (fun e=>(e.key,e.val))=e8 k c (dF es n v)/\kF.toList.map (·.born)=List.range kF.size:=by
 obtain⟨aD,hb,he,PJ⟩:=h;have hf:=run_findKey (w:=w) hk (findNow_spec k c n es aD.toList 0 he);have hc:=run_checkKey (w:=w) (k:=.int k n) hk (by simp[IsKey]) false 9999
 unfold Instr.mapUpdate;simp only[Sem.run_bind,run_underlying hu,Result.andThen_ok,Go.MapKept.run_getObj_map hb,hc];rw[hf];cases hm:eG es n with
 |none=>
  refine⟨aD.push {key:=.int k n,val:=c.val v,born:=aD.size},?_,?_,?_⟩
  ·simp only[Result.andThen_ok,Go.MapKept.run_setObj_map _ hb,Array.size_push]
  ·rw[yh v hm];simp[he,e8]
  ·simp[PJ,List.range_succ]
 |some jv=>
  obtain⟨j,u⟩:=jv;have hg:=aIk hm;have hj:j<aD.size:=by
   have h1:=congrArg List.length he;have h2:=(List.getElem?_eq_some_iff.1 hg).1;simp[e8]at h1;omega
  have hkey:aD[j].key= .int k n:=by
   have h1:=congrArg (fun l=>l[j]?) he
   simp only[e8,List.getElem?_map,hg,Option.map_some]at h1;rw[List.getElem?_eq_getElem (by simpa using hj)]at h1
   simpa using(Prod.mk.inj (Option.some.inj h1)).1
  refine⟨aD.modify j fun e=>{e with key:=.int k n,val:=c.val v},?_,?_,?_⟩
  ·have hks:(Instr.keyThatStays (.int k n) (.int k n)).run P w= .ok (.int k n) w:=by
    have:Instr.sameBits 10000 (.int k n) (.int k n)=true:=by simp[Instr.sameBits]
    simp[Instr.keyThatStays,this]
   simp only[Result.andThen_ok,Nat.zero_add,Sem.run_bind];rw[show((aD[j]?).map (·.key)).getD (.int k n)= .int k n by rw[Array.getElem?_eq_getElem hj];simp[hkey]]
   rw[hks];simp only[Result.andThen_ok,Go.MapKept.run_setObj_map _ hb,Array.size_modify]
  ·rw[yj v hm];apply List.ext_getElem?;intro i;have h1:=congrArg (fun l=>l[i]?) he
   simp only[List.getElem?_map,e8,Array.getElem?_toList,Array.getElem?_modify,List.getElem?_set]at h1 ⊢;by_cases hi:j=i
   ·subst hi;have h2:=(List.getElem?_eq_some_iff.1 hg).1;simp[hj,h2]
   ·simpa[hi]using h1
  ·rw[Array.size_modify,<-PJ];apply List.ext_getElem?;intro i;simp only[List.getElem?_map,Array.getElem?_toList,Array.getElem?_modify];by_cases hi:j=i
   ·subst hi;cases aD[j]?<;>simp
   ·simp[hi]
end
theorem rq {w:World} {b:Nat} {k:IntKind} {c:CK} {es:List (Int×c.ty)} (h:ul w b k c es):∃ aD:Array MapEntry,w.heap[b]?=some (.map aD aD.size)/\aD.size=es.length/\(aD.toList.map (·.born)).Nodup/\
 ∀ j (hj:j<aD.size),aD[j].born=j/\aD[j].key= .int k (es.getD j (0,c.d)).1/\aD[j].val=c.val (es.getD j (0,c.d)).2:=by
 obtain⟨aD,h1,h2,h3⟩:=h;have hl:aD.size=es.length:=by have:=congrArg List.length h2;simpa[e8]using this
 refine⟨aD,h1,hl,by rw[h3];exact List.nodup_range,fun j hj=>?_⟩
 have e1:(aD.toList.map (·.born))[j]?=some aD[j].born:=by simp[hj]
 rw[h3,List.getElem?_range hj]at e1;have e2:(aD.toList.map fun e=>(e.key,e.val))[j]?=some (aD[j].key,aD[j].val):=by simp[hj]
 rw[h2,e8,List.getElem?_map,List.getElem?_eq_getElem (by omega),Option.map_some]at e2
 have e3:=Option.some.inj e2;simp only[Prod.mk.injEq]at e3;rw[List.getD_eq_getElem?_getD,List.getElem?_eq_getElem (by omega)]
 exact⟨(Option.some.inj e1).symm,e3.1.symm,e3.2.symm⟩
theorem pC {aD:Array MapEntry} {e:MapEntry} (h:e∈aD.toList):∃ j,∃ hj:j<aD.size,aD[j]=e:=by
 obtain⟨j,hj,he⟩:=List.getElem_of_mem h;exact⟨j,by simpa using hj,by simpa using he⟩
theorem pJ {N:Nat} {ρ:Keys} {c:CK} {v:c.ty}:(c.pl v).ok N ρ (c.val v):=by
 cases c with
 |int k=>exact⟨rfl,rfl⟩
 |bool=>exact⟨rfl,rfl⟩
 |str=>exact⟨rfl,rfl⟩
 |sl=>exact trivial
theorem vG {P:Program} {w:World} {r bm:Nat} {k:IntKind} {c:CK} {es:List (Int×c.ty)} {n j:Nat} {seen:List Nat} (hm:ul w bm k c es) (hr:w.heap[r]?=some (.mapIter (some bm) n (j::seen).reverse.toArray n)) (hn:es.length=n) (hj:j<n):
 (Instr.entry (.pointer (some ⟨r,0,none⟩))).run P w= .ok (.tuple #[.int k (es.getD j (0,c.d)).1,c.val (es.getD j (0,c.d)).2]) w:=by
 obtain⟨aD,h1,h2,h3,h4⟩:=rq hm;have hj':j<aD.size:=by omega
 obtain⟨b1,b2,b3⟩:=h4 j hj';have:=run_entry_at (P:=P) w r bm n seen.reverse.toArray aD aD.size aD[j] (by rw[hr,b1,h2,hn];simp) h1 (by simp) h3
 rw[b2,b3]at this;exact this
theorem wY {P:Program} {w:World} {r bm:Nat} {k:IntKind} {c:CK} {es:List (Int×c.ty)} {n:Nat} {seen:List Nat} {ty:TypeId} (hm:ul w bm k c es) (hr:w.heap[r]?=some (.mapIter (some bm) n seen.reverse.toArray n)) (hn:es.length=n):
 ((∀ j,j<n->j∈seen)/\(Instr.next (.pointer (some ⟨r,0,none⟩)) false ty).run P w= .ok (.tuple #[.bool false]) w)\/
 ∃ j,j<n/\j∉seen/\∃ w1:World,(w1=w\/w1=w.drew)/\(Instr.next (.pointer (some ⟨r,0,none⟩)) false ty).run P w=
  .ok (.tuple #[.bool true,.int k (es.getD j (0,c.d)).1,c.val (es.getD j (0,c.d)).2]) (Go.ChangeMaps.setBlock w1 r (.mapIter (some bm) n (j::seen).reverse.toArray n)):=by
 obtain⟨aD,h1,h2,h3,h4⟩:=rq hm;have hold:∀ x∈aD.toList,x.born<n:=fun x hx=>by
  obtain⟨j,hj,rfl⟩:=pC hx;rw[(h4 j hj).1];omega
 rcases run_next_at (P:=P) w ty r bm n n seen.reverse.toArray aD aD.size hr h1 hold (Nat.le_refl _)with⟨hz,hrun⟩|⟨e,he,w1,mL,hrun⟩
 ·refine .inl ⟨fun j hj=>?_,hrun⟩
  have hj':j<aD.size:=by omega
  have mM:leftOf aD seen.reverse.toArray=#[]:=Array.eq_empty_of_size_eq_zero hz;unfold leftOf at mM;rw[Array.filter_eq_empty_iff]at mM;have:=mM aD[j] (by simp)
  rw[(h4 j hj').1]at this;simpa using this
 ·unfold leftOf at he;simp only[Array.toList_filter,List.mem_filter]at he;obtain⟨iO,AH⟩:=he;obtain⟨j,hj,rfl⟩:=pC iO;obtain⟨b1,b2,b3⟩:=h4 j hj;rw[b1]at AH hrun;rw[b2,b3]at hrun;refine .inr ⟨j,by omega,by simpa using AH,w1,mL,?_⟩
  rw[hrun,h2,hn];simp
theorem ry {r:Nat}:∀ {l:List Nat},r∈l->Vq r l=true
 |x::l,h=>by
  simp only[Vq];split
  ·rfl
  ·rename_i hb;rcases List.mem_cons.1 h with rfl|h
   ·simp at hb
   ·exact ry h
theorem aIj {r:Nat}:∀ {l:List Nat},r∉l->Vq r l=false
 |[],_=>rfl
 |x::l,h=>by
  simp only[Vq];split
  ·rename_i hb;exact absurd (List.mem_cons.2 (.inl (Nat.eq_of_beq_eq_true hb).symm)) h
  ·exact aIj fun hh=>h (List.mem_cons_of_mem _ hh)
end Go.Sy
end
section
namespace Go.Sy
open Go
def rQ:Value->Value->Option Bool
 | .int k a,.int k' b=>if k=k' then some (a==b)else none
 | .bool a,.bool b=>some (a==b)
 | .string a,.string b=>some (a.toList==b.toList)
 |_,_=>none
def eB:List Value->List Value->Option Bool
 |[],[]=>some true
 |x::xs,y::ys=>(match rQ x y,eB xs ys with|some e,some e'=>some (e&&e')|_,_=>none)
 |_,_=>none
def pM:Value->Option Nat
 | .int _ _=>some 0
 | .bool _=>some 1
 | .string _=>some 2
 |_=>none
def eD:List Nat->List Value->Prop
 |[],[]=>True
 |k::ks,y::ys=>pM y=some k/\eD ks ys
 |_,_=>False
def eO (P:Program) (t:TypeId):Option Nat:=
 match P.underlying t with
 |some (.int _)=>some 0
 |some .bool=>some 1
 |some .string=>some 2
 |_=>none
def jh (rec:TypeId->Option (List Nat)) (P:Program):List Field->Nat->Option (List Nat)
 |[],_=>some []
 |f::fs,off=>
  match f.name== "_",Nat.beq f.offset off,rec f.type,P.info? f.type with
  |false,true,some ks,some i=>
   (match Nat.beq i.size ks.length,jh rec P fs (off+ks.length)with
    |true,some r=>some (ks++r)
    |_,_=>none)
  |_,_,_,_=>none
def dB (P:Program):Nat->TypeId->Option (List Nat)
 |0,_=>none
 |d+1,t=>
  match eO P t with
  |some c=>some [c]
  |none=>
   match P.underlying t,P.stoodInHeld t with
   |some (.struct fs),false=>jh (dB P d) P fs.toList 0
   |_,_=>none
def valOf (P:Program) (t:TypeId) (ys:List Value):Value:=
 match eO P t with
 |some _=>ys.headD undef
 |none=> .agg ys.toArray
theorem eD.length:∀ {ks:List Nat} {ys:List Value},eD ks ys->ys.length=ks.length
 |[],[],_=>rfl
 |_::_,_::_,h=>by simp[eD.length h.2]
theorem nh:∀ {ks azG:List Nat} {ys:List Value},eD (ks++azG) ys->eD ks (ys.take ks.length)/\eD azG (ys.drop ks.length)
 |[],_,_,h=>⟨by simp[eD],by simpa using h⟩
 |_::_,_,_::_,h=>by
  obtain⟨h1,h2⟩:=nh h.2;exact⟨⟨h.1,h1⟩,h2⟩
theorem vV:∀ (n:Nat) {ys ys':List Value} {e:Bool},n<=ys.length->eB ys ys'=some e->∃ e1 e2,eB (ys.take n) (ys'.take n)=some e1/\eB (ys.drop n) (ys'.drop n)=some e2/\e=(e1&&e2)
 |0,ys,ys',e,_,h=>⟨true,e,by simp[eB],by simpa using h,by simp⟩
 |n+1,[],_,_,hl,_=>by simp at hl
 |n+1,y::ys,[],_,_,h=>by simp[eB]at h
 |n+1,y::ys,y'::ys',e,hl,h=>by
  simp only[eB]at h;split at h
  ·rename_i e1 e2 h1 h2;obtain⟨a,b,ha,hb,rfl⟩:=vV n (by simpa using hl) h2
   obtain rfl:=Option.some.inj h;exact⟨e1&&a,b,by simp[eB,h1,ha],hb,by simp[Bool.and_assoc]⟩
  ·cases h
theorem aB6:∀ {ys ys':List Value} {e:Bool},eB ys ys'=some e->ys.length=ys'.length
 |[],[],_,_=>rfl
 |[],_::_,_,h=>by simp[eB]at h
 |_::_,[],_,h=>by simp[eB]at h
 |y::ys,y'::ys',e,h=>by
  simp only[eB]at h;split at h
  ·rename_i e1 e2 h1 h2;simp[aB6 h2]
  ·cases h
section
variable {P:Program}
theorem wX {t:TypeId} {c:Nat} (h:eO P t=some c) (w:World):(isAgg t).run P w= .ok false w:=by
 unfold eO at h;split at h
 ·rename_i hu;simp[isAgg,run_underlying hu]
 ·rename_i hu;simp[isAgg,run_underlying hu]
 ·rename_i hu;simp[isAgg,run_underlying hu]
 ·cases h
theorem tZ {t:TypeId} {c:Nat} (h:eO P t=some c) {x y:Value} (hx:pM x=some c) {e:Bool} (he:rQ x y=some e) (d:Nat) (w:World):(Op.equalIn (d+1) t x y).run P w= .ok e w:=by
 unfold eO at h;split at h
 ·rename_i k hu;obtain rfl:=Option.some.inj h;cases x<;>simp[pM]at hx
  cases y<;>simp[rQ]at he
  obtain⟨rfl,rfl⟩:=he;simp[Op.equalIn,run_underlying hu]
 ·rename_i hu;obtain rfl:=Option.some.inj h;cases x<;>simp[pM]at hx
  cases y<;>simp[rQ]at he
  subst he;simp[Op.equalIn,run_underlying hu]
 ·rename_i hu;obtain rfl:=Option.some.inj h;cases x<;>simp[pM]at hx
  cases y<;>simp[rQ]at he
  subst he;simp[Op.equalIn,run_underlying hu,beq_toListBytes]
 ·cases h
theorem ua {t:TypeId} {d:Nat} {ks:List Nat} {i:TypeInfo} (hk:dB P d t=some ks) (hi:P.info? t=some i) (hs:i.size=ks.length) (xs:List Value) (off:Nat) (hl:off+ks.length<=xs.length) (w:World):
 (part t xs.toArray off).run P w= .ok (valOf P t ((xs.drop off).take ks.length)) w:=by
 cases d with
 |zero=>cases hk
 |succ d=>
  unfold dB at hk;split at hk
  ·rename_i c hc;obtain rfl:=Option.some.inj hk;simp only[List.length_singleton]at hl;simp only[part,Sem.run_bind,wX hc,Result.andThen_ok,Bool.false_eq_true,if_false,valOf,hc];rw[List.getElem?_toArray,List.getElem?_eq_getElem (by omega)]
   simp only[Sem.run_pure]
   congr 1
   rw[List.drop_eq_getElem_cons (by omega)]
   rfl
  ·rename_i hc;split at hk
   ·rename_i fs hu hp;have ha:(isAgg t).run P w= .ok true w:=by simp[isAgg,run_underlying hu]
    simp only[part,Sem.run_bind,ha,Result.andThen_ok,if_true,sizeOf,typeInfo,run_program,hi,Sem.run_pure,valOf,hc,hs]
    congr 2
    apply Array.ext';simp[List.extract_eq_take_drop]
   ·cases hk
theorem oh {rec:TypeId->Option (List Nat)} {d D:Nat} (Nw:∀ t ks,rec t=some ks->dB P d t=some ks)
 (H:∀ t ks,dB P d t=some ks->∀ ys ys' e,eD ks ys->eB ys ys'=some e->∀ w,(Op.equalIn D t (valOf P t ys) (valOf P t ys')).run P w= .ok e w):
 ∀ (fs:List Field) (off:Nat) (ks:List Nat),jh rec P fs off=some ks->∀ (xs xs':List Value) (e:Bool),eD ks (xs.drop off)->eB (xs.drop off) (xs'.drop off)=some e->off<=xs.length->off<=xs'.length->∀ w,(Op.eqFields D xs.toArray xs'.toArray fs).run P w= .ok e w
 |[],off,ks,hk,xs,xs',e,hv,he,_,_,w=>by
  obtain rfl:=Option.some.inj hk;have h1:=hv.length;cases hx:xs.drop off with
  |cons=>rw[hx]at h1;simp at h1
  |nil=>
   rw[hx]at he;cases hy:xs'.drop off with
   |cons=>rw[hy]at he;simp[eB]at he
   |nil=>rw[hy]at he;simp[eB]at he;subst he;rfl
 |f::fs,off,ks,hk,xs,xs',e,hv,he,hl,hl',w=>by
  unfold jh at hk;split at hk
  ·rename_i pV i hn ho hr hi;split at hk
   ·rename_i r hsz xT;obtain rfl:=Option.some.inj hk;have mJ:f.offset=off:=Nat.eq_of_beq_eq_true ho;have wI:i.size=pV.length:=Nat.eq_of_beq_eq_true hsz;have cB:=Nw _ _ hr;obtain⟨v1,v2⟩:=nh hv;have hlen:=hv.length;rw[List.length_append,List.length_drop]at hlen;have hlen':=aB6 he;rw[List.length_drop,List.length_drop]at hlen';obtain⟨e1,e2,q1,q2,rfl⟩:=vV pV.length (by rw[List.length_drop];omega) he
    rw[List.drop_drop]at v2 q2;rw[List.drop_drop]at q2;have ih:=oh Nw H fs (off+pV.length) r xT xs xs' e2 v2 q2 (by omega) (by omega) w
    have hne:f.name≠ "_" :=by simpa using hn
    simp only[Op.eqFields,hne,ne_eq,not_false_eq_true,if_true,mJ,Sem.run_bind,ua cB hi wI xs off (by omega),ua cB hi wI xs' off (by omega),Result.andThen_ok,H _ _ cB _ _ _ v1 q1]
    cases e1
    ·simp
    ·simpa using ih
   ·cases hk
  ·cases hk
theorem lM:∀ (d D:Nat),d<=D->∀ (t:TypeId) (ks:List Nat),dB P d t=some ks->∀ (ys ys':List Value) (e:Bool),eD ks ys->eB ys ys'=some e->∀ w,(Op.equalIn D t (valOf P t ys) (valOf P t ys')).run P w= .ok e w
 |0,_,_,_,_,hk,_,_,_,_,_,_=>by cases hk
 |d+1,0,hD,_,_,_,_,_,_,_,_,_=>by omega
 |d+1,D+1,hD,t,ks,hk,ys,ys',e,hv,he,w=>by
  unfold dB at hk;split at hk
  ·rename_i c hc;obtain rfl:=Option.some.inj hk
   match ys,hv with
   |[y],hv=>
    have hl:=aB6 he
    match ys',hl with
    |[y'],_=>
     simp only[eB]at he;split at he
     ·rename_i e1 e2 h1 h2;obtain rfl:=Option.some.inj h2;obtain rfl:=Option.some.inj he;simp only[valOf,hc,List.headD_cons,Bool.and_true];exact tZ hc hv.1 h1 D w
     ·cases he
  ·rename_i hc;split at hk
   ·rename_i fs hu hp;have Hv:P.underlying t=some (.struct (P.fieldsOf t)):=by simp[Program.fieldsOf,hu]
    have hf:P.fieldsOf t=fs:=by simp[Program.fieldsOf,hu]
    simp only[valOf,hc];rw[run_equalIn_agg (ht:=Hv) (hp:=hp),hf];exact oh (d:=d) (D:=D) (fun _ _ h=>h) (fun t ks hk ys ys' e hv he w=>lM d D (by omega) t ks hk ys ys' e hv he w) fs.toList 0 ks hk ys ys' e (by simpa using hv) (by simpa using he) (Nat.zero_le _) (Nat.zero_le _) w
   ·cases hk
end
end Go.Sy
end
