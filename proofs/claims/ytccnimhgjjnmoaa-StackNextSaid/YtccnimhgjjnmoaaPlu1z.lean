/-
  Texts of the claims: Plu1z. No condition: lemmas and contracts.
-/
import Derived.Test.YtccnimhgjjnmoaaPla6z
import Derived.Test.YtccnimhgjjnmoaaPlc1z
import Derived.Test.YtccnimhgjjnmoaaPlg1z
import Derived.Test.YtccnimhgjjnmoaaPlj1z
import Derived.Test.YtccnimhgjjnmoaaPlq1z
set_option linter.all false
set_option maxRecDepth 100000
set_option maxHeartbeats 40000000
section
namespace Go.dg
theorem aqU (d:Int):(if 0-d>d then 0-d else d)=dst d:=by unfold dst;split<;>split<;>omega
/-! ### The specification's nearest set -/
end Go.dg
end
section
namespace Go.dg
theorem aGd {f l:Int} {L:List Bk} (hf:0<=f) (hL:ak1 L) (hn:L≠[]):gf l (dst (wN f L (x9 l f L)-f-l)) f L≠[]:=by
 obtain⟨h1,h2,-,-,-⟩:=atN (l:=l) hf hL hn;refine aEj h1 (aEY.2 ⟨h2,?_⟩);have:=(axF (d:=wN f L (x9 l f L)-f-l) (ar3 (wN f L (x9 l f L)-f-l))).1 (Int.le_refl _);omega
theorem aGv {f l t:Int} {L:List Bk} (hn:L≠[]) (ht:0<=t) (h:t<dst (wN f L (x9 l f L)-f-l)):gf l t f L=[]:=aFt fun u hu=>by
 rw[Bool.eq_false_iff];intro hg;obtain⟨h0,h1,h2⟩:=aEY.1 hg;have:=aFT (l:=l) (f:=f) hn hu h0;have h3:=(axF (d:=wN f L u-f-l) ht).2 ⟨by omega,by omega⟩
 omega
/-! ### A further block -/
/-! ### A greater tolerance -/
end Go.dg
end
