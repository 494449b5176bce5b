/-
  Texts of the claims: Ykg2z. No condition: lemmas and contracts.
-/
import Derived.Test.YtccnimhgjjnmoaaSya1z
import Derived.Test.YtccnimhgjjnmoaaSya2z
import Derived.Test.YtccnimhgjjnmoaaSya3z
import Derived.Test.YtccnimhgjjnmoaaSya4z
import Derived.Test.YtccnimhgjjnmoaaSya5z
import Derived.Test.YtccnimhgjjnmoaaPla6z
import Derived.Test.YtccnimhgjjnmoaaYka7z
import Derived.Test.YtccnimhgjjnmoaaYka8z
import Derived.Test.YtccnimhgjjnmoaaYka9z
import Derived.Test.YtccnimhgjjnmoaaYka10z
import Derived.Test.YtccnimhgjjnmoaaYka11z
import Derived.Test.YtccnimhgjjnmoaaYka12z
import Derived.Test.YtccnimhgjjnmoaaYka13z
import Derived.Test.YtccnimhgjjnmoaaYka14z
import Derived.Test.YtccnimhgjjnmoaaYka15z
import Derived.Test.YtccnimhgjjnmoaaYka16z
import Derived.Test.YtccnimhgjjnmoaaYka17z
import Derived.Test.YtccnimhgjjnmoaaYka18z
import Derived.Test.YtccnimhgjjnmoaaPlb1z
import Derived.Test.YtccnimhgjjnmoaaPlc1z
import Derived.Test.YtccnimhgjjnmoaaYkc2z
import Derived.Test.YtccnimhgjjnmoaaPlg1z
set_option linter.all false
set_option maxRecDepth 100000
set_option maxHeartbeats 40000000
section
namespace Go.Proofs.Ytccnimhgjjnmoaa
open Go Go.Sy Go.dg
variable {Γ:bn}
theorem aGV {L:List Bk} {u:Nat} (hu:u<2^L.length) (h0:u≠0):eg L u≠[]:=fun e=>by
 have h1:=ew L u;rw[e]at h1;have:=aon hu h0;simp at h1;omega
theorem aFu {L:List Bk} {l t f:Int} {u:Nat} (ha:bf L l t f=0) (hu:u<2^L.length) (h0:u≠0):aD1 L l t f (eg L u)=(wN f L u-f,0):=by
 obtain⟨hB,-⟩:=gg ha;have h1:=aGc hB.aos hu;have h2:=(aEe f hB.aos (eg L u) none (by rw[h1])).1
 unfold aD1;rw[if_pos ha,if_neg (aGV hu h0),if_pos (by rw[h1])]
 rw[h1]at h2 ⊢;dsimp only at h2 ⊢;rw[<-h2,Int.sub_mul,Int.one_mul]
 congr 1;omega
attribute [local irreducible] bf ck gf x9 eg wN Cn aD1
end Go.Proofs.Ytccnimhgjjnmoaa
end
