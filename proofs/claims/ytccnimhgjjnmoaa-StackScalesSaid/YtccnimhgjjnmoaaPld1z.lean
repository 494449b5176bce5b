/-
  Texts of the claims: Pld1z. No condition: lemmas and contracts.
-/
import Derived.Test.YtccnimhgjjnmoaaPla6z
set_option linter.all false
set_option maxRecDepth 100000
set_option maxHeartbeats 40000000
section
namespace Go.dg
def gi (i s:Nat):Bool:=s / 2^i%2==1
end Go.dg
end
