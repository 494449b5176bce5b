/-
  Texts of the claims: Plj1z. No condition: lemmas and contracts.
-/
import Derived.Test.YtccnimhgjjnmoaaPla6z
import Derived.Test.YtccnimhgjjnmoaaPlc1z
import Derived.Test.YtccnimhgjjnmoaaPlg1z
set_option linter.all false
set_option maxRecDepth 100000
set_option maxHeartbeats 40000000
section
namespace Go.dg
theorem aEj {l t f:Int} {L:List Bk} {u:Nat} (hu:u<2^L.length) (h:akv l t f L u=true):gf l t f L≠[]:=fun e=>by
 have:(u:Int)∈gf l t f L:=aoq.2 ⟨u,rfl,hu,h⟩;rw[e]at this;cases this
/-! ### A further block -/
/-! ### A greater tolerance -/
end Go.dg
end
