/-
  Texts of the claims: Ykr2z. No condition: lemmas and contracts.
-/
import Derived.Test.YtccnimhgjjnmoaaSya1z
import Derived.Test.YtccnimhgjjnmoaaSya2z
import Derived.Test.YtccnimhgjjnmoaaSya3z
import Derived.Test.YtccnimhgjjnmoaaSya4z
import Derived.Test.YtccnimhgjjnmoaaSya5z
import Derived.Test.YtccnimhgjjnmoaaPla6z
import Derived.Test.YtccnimhgjjnmoaaYka7z
import Derived.Test.YtccnimhgjjnmoaaYka8z
import Derived.Test.YtccnimhgjjnmoaaYka9z
import Derived.Test.YtccnimhgjjnmoaaYka10z
import Derived.Test.YtccnimhgjjnmoaaYka11z
import Derived.Test.YtccnimhgjjnmoaaYka12z
import Derived.Test.YtccnimhgjjnmoaaYka13z
import Derived.Test.YtccnimhgjjnmoaaYka14z
import Derived.Test.YtccnimhgjjnmoaaYka15z
import Derived.Test.YtccnimhgjjnmoaaYka16z
import Derived.Test.YtccnimhgjjnmoaaYka17z
import Derived.Test.YtccnimhgjjnmoaaYka18z
import Derived.Test.YtccnimhgjjnmoaaPlb1z
import Derived.Test.YtccnimhgjjnmoaaPld1z
import Derived.Test.YtccnimhgjjnmoaaPlf1z
import Derived.Test.YtccnimhgjjnmoaaPlr1z
set_option linter.all false
set_option maxRecDepth 100000
set_option maxHeartbeats 40000000
section
namespace Go.Proofs.Ytccnimhgjjnmoaa
open Go Go.Sy Go.dg
variable {Γ:bn}
abbrev tA (b:Option (Nat×Nat)):Int:=((b.getD (0,0)).1:Nat)
abbrev tB (b:Option (Nat×Nat)):Int:=((b.getD (0,0)).2:Nat)
abbrev aD7 (l t f:Int) (L:List Bk):List Nat:=(gf l t f L).map Int.toNat
def rT (L:List Bk) (l t f l' t' f':Int):Option (Nat×Nat):=aFF L.length (aD7 l t f L) (aD7 l' t' f' L)
section
variable {L:List Bk} {l t f l' t' f':Int} {i j:Nat}
end
attribute [local irreducible] ck gi wN sub blk gf eA
end Go.Proofs.Ytccnimhgjjnmoaa
end
section
namespace Go.Proofs.Ytccnimhgjjnmoaa
open Go Go.Sy Go.dg
variable {Γ:bn}
theorem aGj (L:List Bk) (l t f l' t' f':Int):ars L l t f l' t' f'=aEF L.length (rT L l t f l' t' f'):=by
 unfold ars rT als aD7;rw[awS,awS];exact aG6 (fun u=>apQ) (fun u=>apQ)
theorem aEO {L:List Bk} {l t f l' t' f':Int}:at5 L l t f l' t' f'=(rT L l t f l' t' f').isSome:=by
 unfold at5;rw[aGj];cases rT L l t f l' t' f'<;>rfl
theorem aFW {L:List Bk} {l t f l' t' f':Int} (h:(rT L l t f l' t' f').isSome=true):pw L (amK L l t f l' t' f').1=eg L (Int.toNat (tA (rT L l t f l' t' f')))/\pw L (amK L l t f l' t' f').2=eg L (Int.toNat (tB (rT L l t f l' t' f'))):=by
 unfold amK;rw[aGj];cases hr:rT L l t f l' t' f' with
 |none=>rw[hr]at h;cases h
 |some pq=>
  obtain⟨p,q⟩:=pq;show pw L (idx L.length 0 p)=eg L (Int.toNat (p:Int))/\pw L (idx L.length 0 q)=eg L (Int.toNat (q:Int));rw[aq8,aq8,Int.toNat_natCast,Int.toNat_natCast];exact⟨rfl,rfl⟩
attribute [local irreducible] ck bf akW pe rT ars eg pw
end Go.Proofs.Ytccnimhgjjnmoaa
end
