/-
  Texts of the claims: Plb1z. No condition: lemmas and contracts.
-/
import Derived.Test.YtccnimhgjjnmoaaPla6z
set_option linter.all false
set_option maxRecDepth 100000
set_option maxHeartbeats 40000000
section
namespace Go.dg
section
variable {L:List Bk} {l:List Int} {i:Nat} {n:Int} {s:Nat}
end
theorem ew:∀ (L:List Bk) (u:Nat),(eg L u).length=cnt L.length u
 |[],u=>rfl
 |b::L,u=>by
  have ih:=ew L (u / 2);simp only[eg,cnt,List.length_cons];rcases Nat.mod_two_eq_zero_or_one u with h|h
  ·rw[h,if_neg (by omega),ih];omega
  ·rw[h,if_pos rfl,List.length_cons,ih];omega
end Go.dg
end
