/-
  Texts of the claims: Plq1z. No condition: lemmas and contracts.
-/
import Derived.Test.YtccnimhgjjnmoaaPla6z
import Derived.Test.YtccnimhgjjnmoaaPlc1z
import Derived.Test.YtccnimhgjjnmoaaPlg1z
import Derived.Test.YtccnimhgjjnmoaaPlj1z
set_option linter.all false
set_option maxRecDepth 100000
set_option maxHeartbeats 40000000
section
namespace Go.dg
theorem aFt {l t f:Int} {L:List Bk} (h:∀ u,u<2^L.length->akv l t f L u=false):gf l t f L=[]:=List.eq_nil_iff_forall_not_mem.2 fun z hz=>by
 obtain⟨s,-,h1,h2⟩:=aoq.1 hz;rw[h s h1]at h2;cases h2
theorem aFT {f l:Int} {L:List Bk} (hn:L≠[]) {u:Nat} (hu:u<2^L.length) (h0:u≠0):dst (wN f L (x9 l f L)-f-l)<=dst (wN f L u-f-l):=by
 obtain⟨s,h1,-,h3⟩:=ayD (n:=L.length) (x:=fun s=>wN f L s-f-l) (fun e=>hn (List.eq_nil_of_length_eq_zero e))
 have e:x9 l f L=s:=by unfold x9;rw[h1]
 rw[e];exact h3 u hu h0
/-! ### A further block -/
/-! ### A greater tolerance -/
end Go.dg
end
