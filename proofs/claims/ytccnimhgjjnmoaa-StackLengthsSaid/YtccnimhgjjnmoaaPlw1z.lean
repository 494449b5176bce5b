/-
  Texts of the claims: Plw1z. No condition: lemmas and contracts.
-/
import Derived.Test.YtccnimhgjjnmoaaPla6z
import Derived.Test.YtccnimhgjjnmoaaPlb1z
import Derived.Test.YtccnimhgjjnmoaaPlc1z
import Derived.Test.YtccnimhgjjnmoaaPld1z
import Derived.Test.YtccnimhgjjnmoaaPlf1z
import Derived.Test.YtccnimhgjjnmoaaPlh1z
import Derived.Test.YtccnimhgjjnmoaaPlp1z
set_option linter.all false
set_option maxRecDepth 100000
set_option maxHeartbeats 40000000
section
namespace Go.dg
section
variable {L:List Bk} {l:List Int} {i:Nat} {n:Int} {s:Nat}
end
theorem aET {L:List Bk} {x:Int}:∀ {k:Nat},k<=L.length->(∀ j,j<k->(bk L j).1≠x)->k<=pos L x:=by
 induction L with
 |nil=>intro k hk _;simp at hk;omega
 |cons b L ih=>
  intro k hk h;cases k with
  |zero=>exact Nat.zero_le _
  |succ k=>
   have h0:b.1≠x:=by simpa[bk]using h 0 (by omega)
   have:=ih (k:=k) (by simp at hk;omega) (fun j hj=>by simpa[bk]using h (j+1) (by omega))
   rw[pos,if_neg h0];omega
theorem aGz {L:List Bk} {x:Int} {k:Nat} (hk:k<L.length) (h:∀ j,j<k->(bk L j).1≠x) (hx:(bk L k).1=x):pos L x=k:=by
 have h1:=aET (Nat.le_of_lt hk) h;rcases Nat.lt_or_eq_of_le h1 with h2|h2
 ·exfalso;have:pos L x<=k:=by
   clear h h1 h2;induction L generalizing k with
   |nil=>simp at hk
   |cons b L ih=>
    cases k with
    |zero=>simp[bk]at hx;simp[pos,hx]
    |succ k=>
     have:=ih (k:=k) (by simp at hk;omega) (by simpa[bk]using hx)
     rw[pos];split<;>omega
  omega
 ·exact h2.symm
theorem aG3 {L:List Bk} {x:Int} (h:∀ j,j<L.length->(bk L j).1≠x):pos L x=L.length:=by
 have h1:=aET (Nat.le_refl _) h;have h2:=aEp L x;omega
end Go.dg
end
