/-
  Texts of the claims: Yko1z. No condition: lemmas and contracts.
-/
import Derived.Test.YtccnimhgjjnmoaaSya1z
import Derived.Test.YtccnimhgjjnmoaaSya2z
import Derived.Test.YtccnimhgjjnmoaaSya3z
import Derived.Test.YtccnimhgjjnmoaaSya4z
import Derived.Test.YtccnimhgjjnmoaaSya5z
import Derived.Test.YtccnimhgjjnmoaaPla6z
import Derived.Test.YtccnimhgjjnmoaaYka7z
import Derived.Test.YtccnimhgjjnmoaaYka8z
import Derived.Test.YtccnimhgjjnmoaaYka9z
import Derived.Test.YtccnimhgjjnmoaaYka10z
import Derived.Test.YtccnimhgjjnmoaaYka11z
import Derived.Test.YtccnimhgjjnmoaaYka12z
import Derived.Test.YtccnimhgjjnmoaaYka13z
import Derived.Test.YtccnimhgjjnmoaaYka14z
import Derived.Test.YtccnimhgjjnmoaaYka15z
import Derived.Test.YtccnimhgjjnmoaaYka16z
import Derived.Test.YtccnimhgjjnmoaaYka17z
import Derived.Test.YtccnimhgjjnmoaaYka18z
import Derived.Test.YtccnimhgjjnmoaaPlb1z
import Derived.Test.YtccnimhgjjnmoaaPlc1z
import Derived.Test.YtccnimhgjjnmoaaYkc2z
import Derived.Test.YtccnimhgjjnmoaaPld1z
import Derived.Test.YtccnimhgjjnmoaaYke1z
import Derived.Test.YtccnimhgjjnmoaaPlf1z
import Derived.Test.YtccnimhgjjnmoaaPlg1z
import Derived.Test.YtccnimhgjjnmoaaYkg2z
import Derived.Test.YtccnimhgjjnmoaaPlh1z
import Derived.Test.YtccnimhgjjnmoaaYkh2z
import Derived.Test.YtccnimhgjjnmoaaYki1z
import Derived.Test.YtccnimhgjjnmoaaYkk1z
set_option linter.all false
set_option maxRecDepth 100000
set_option maxHeartbeats 40000000
section
namespace Go.Proofs.Ytccnimhgjjnmoaa
open Go Go.Sy Go.dg
variable {Γ:bn}
theorem aEl {L:List Bk} {l t f:Int} {I:List Int} (h:aD3 L l t f I=true):∃ u:Nat,u<2^L.length/\akv l t f L u=true/\eg L u=I:=by
 have h1:(aD1 L l t f I).2=0:=by
  unfold aD3 at h;rw[Bool.and_eq_true,decide_eq_true_eq]at h;exact h.1
 have ha:=aEb h1;obtain⟨hB,-⟩:=gg ha;obtain⟨u,-,h2,h3,h4,h5⟩:=aEy hB ((aFb ha).symm.trans h1);exact⟨u,h2,by rw[<-aEM h1 h3 (h5 l t f ha)];exact h,h4⟩
attribute [local irreducible] bf ck gf aku eg wN aD1 aD3 am1 akK akT e7 cw
end Go.Proofs.Ytccnimhgjjnmoaa
end
