/-
  Texts of the claims: Plf1z. No condition: lemmas and contracts.
-/
import Derived.Test.YtccnimhgjjnmoaaPla6z
import Derived.Test.YtccnimhgjjnmoaaPld1z
set_option linter.all false
set_option maxRecDepth 100000
set_option maxHeartbeats 40000000
section
namespace Go.dg
theorem aCu (s:Nat):gi 0 s=(s%2==1):=by simp[gi]
theorem aus (i s:Nat):gi (i+1) s=gi i (s / 2):=by unfold gi;rw[apK]
end Go.dg
end
