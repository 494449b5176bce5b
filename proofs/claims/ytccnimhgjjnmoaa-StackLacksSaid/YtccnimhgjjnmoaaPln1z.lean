/-
  Texts of the claims: Pln1z. No condition: lemmas and contracts.
-/
import Derived.Test.YtccnimhgjjnmoaaPla6z
import Derived.Test.YtccnimhgjjnmoaaPlc1z
import Derived.Test.YtccnimhgjjnmoaaPlg1z
import Derived.Test.YtccnimhgjjnmoaaPlj1z
set_option linter.all false
set_option maxRecDepth 100000
set_option maxHeartbeats 40000000
section
namespace Go.dg
theorem aFr {l t f:Int} {L:List Bk} (h:gf l t f L≠[]):aku l t f L<2^L.length/\akv l t f L (aku l t f L)=true:=by
 obtain⟨h1,-⟩:=aop h;refine⟨h1.lt,?_⟩;rw[apQ,Bool.and_eq_true,decide_eq_true_eq];exact⟨h1.ne,h1.ni⟩
theorem aFN {l t f:Int} {L:List Bk} {u:Nat} (hu:u<2^L.length) (hg:akv l t f L u=true):cnt L.length (aku l t f L)<=cnt L.length u:=by
 obtain⟨h1,-⟩:=aop (aEj hu hg);rw[apQ,Bool.and_eq_true,decide_eq_true_eq]at hg;have:=h1.least u hu hg.1 hg.2;unfold eA at this;split at this
 ·omega
 ·have h2:=of_decide_eq_false this;omega
/-! ### A further block -/
/-! ### A greater tolerance -/
end Go.dg
end
