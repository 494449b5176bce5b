/-
  Texts of the claims: Pls1z. No condition: lemmas and contracts.
-/
import Derived.Test.YtccnimhgjjnmoaaPla6z
import Derived.Test.YtccnimhgjjnmoaaPld1z
import Derived.Test.YtccnimhgjjnmoaaPlp1z
set_option linter.all false
set_option maxRecDepth 100000
set_option maxHeartbeats 40000000
section
namespace Go.dg
/-! ### Blocks -/
/-! ### The order,place by place -/
theorem awQ {l t f:Int} {L:List Bk}:akv l t f L 0=false:=by
 rw[Bool.eq_false_iff];intro h;exact(amx.1 h).1 rfl
theorem apS {l t f:Int} {L:List Bk}:RK l t f L 1=[]:=by
 unfold RK;rw[show List.range 1=[0]from rfl,List.filter_cons,awQ];rfl
theorem atp {l t f:Int} {L:List Bk} (i:Nat):RK l t f L (i+1)=if akv l t f L i=true then RK l t f L i++[(i:Int)]else RK l t f L i:=by
 unfold RK;rw[List.range_succ,List.filter_append,List.map_append,List.filter_cons];cases akv l t f L i<;>simp
theorem apR {l t f:Int} {L:List Bk} (i:Nat):(RK l t f L i).length<=i:=by
 unfold RK;have h:=List.length_filter_le (akv l t f L) (List.range i);rw[List.length_range]at h;rw[List.length_map];exact h
end Go.dg
end
section
namespace Go.dg
theorem awR (l t f:Int) (L:List Bk):(gf l t f L).length<=2^L.length:=apR _
end Go.dg
end
