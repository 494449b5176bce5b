/-
  Texts of the claims: Plb1y. No condition: lemmas and contracts.
-/
import Derived.Test.YtccnimhgjjnmoaaSya1z
import Derived.Test.YtccnimhgjjnmoaaSya2z
import Derived.Test.YtccnimhgjjnmoaaSya3z
import Derived.Test.YtccnimhgjjnmoaaSya4z
import Derived.Test.YtccnimhgjjnmoaaSya5z
import Derived.Test.YtccnimhgjjnmoaaPla6z
import Derived.Test.YtccnimhgjjnmoaaYka7z
import Derived.Test.YtccnimhgjjnmoaaYka8z
import Derived.Test.YtccnimhgjjnmoaaYka9z
import Derived.Test.YtccnimhgjjnmoaaYka10z
import Derived.Test.YtccnimhgjjnmoaaYka11z
import Derived.Test.YtccnimhgjjnmoaaYka12z
import Derived.Test.YtccnimhgjjnmoaaYka13z
import Derived.Test.YtccnimhgjjnmoaaYka14z
import Derived.Test.YtccnimhgjjnmoaaYka15z
import Derived.Test.YtccnimhgjjnmoaaYka16z
import Derived.Test.YtccnimhgjjnmoaaYka17z
import Derived.Test.YtccnimhgjjnmoaaYka18z
import Derived.Test.YtccnimhgjjnmoaaPlb1z
import Derived.Test.YtccnimhgjjnmoaaPlc1z
import Derived.Test.YtccnimhgjjnmoaaPlg1z
set_option linter.all false
set_option maxRecDepth 100000
set_option maxHeartbeats 40000000
section
namespace Go.dg
section
variable {S:List Int}
theorem aI9:∀ {L:List Bk} {u:Nat} {x:Int},x∈eg L u->∃ b∈L,b.1=x
 |[],_,_,h=>by cases h
 |b::L,u,x,h=>by
  have h:x∈(if u%2=1 then b.1::eg L (u / 2)else eg L (u / 2)):=h
  split at h
  ·rcases List.mem_cons.1 h with rfl|h
   ·exact⟨b,List.mem_cons_self ..,rfl⟩
   ·obtain⟨c,h1,h2⟩:=aI9 h;exact⟨c,List.mem_cons_of_mem _ h1,h2⟩
  ·obtain⟨c,h1,h2⟩:=aI9 h;exact⟨c,List.mem_cons_of_mem _ h1,h2⟩
end
end Go.dg
end
