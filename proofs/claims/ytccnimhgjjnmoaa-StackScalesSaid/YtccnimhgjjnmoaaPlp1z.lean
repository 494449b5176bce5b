/-
  Texts of the claims: Plp1z. No condition: lemmas and contracts.
-/
import Derived.Test.YtccnimhgjjnmoaaPla6z
import Derived.Test.YtccnimhgjjnmoaaPld1z
set_option linter.all false
set_option maxRecDepth 100000
set_option maxHeartbeats 40000000
section
namespace Go.dg
theorem awo {s k:Nat}:((((s:Int).tdiv (1*2^k)).tmod 2==1))=gi k s:=by
 have h1:(1*2^k:Int)=((2^k:Nat):Int):=by simp
 rw[h1,<-Int.ofNat_tdiv,show(2:Int)=((2:Nat):Int)from rfl,<-Int.ofNat_tmod];unfold gi;by_cases h:s / 2^k%2=1
 ·rw[h];rfl
 ·have:s / 2^k%2=0:=by omega
  rw[this];rfl
theorem avk {k:Nat} (hk:k<=62):(0:Int)<1*2^k/\(1*2^k:Int)<=4611686018427387904:=by
 have h1:(1*2^k:Int)=((2^k:Nat):Int):=by simp
 have h2:=Nat.two_pow_pos k;have h3:2^k<=2^62:=Nat.pow_le_pow_right (by omega) hk
 have h4:(2:Nat)^62=4611686018427387904:=by decide
 rw[h1];omega
theorem axg (f:Int) {L:List Bk} {k:Nat} (h:k<L.length) (s:Nat):wN f (L.take (k+1)) s=if gi k s=true then wN f (L.take k) s+(bk L k).2+f else wN f (L.take k) s:=by
 rw[amJ h,amX,List.length_take,Nat.min_eq_left (by omega)]
 unfold gi;by_cases e:s / 2^k%2=1
 ·simp only[e,beq_self_eq_true,if_true];omega
 ·have:(s / 2^k%2==1)=false:=by simpa using e
  rw[if_neg e,this];simp
/-! ### Blocks -/
/-! ### The order,place by place -/
theorem atY (n:Nat):(1*2^n:Int)=((2^n:Nat):Int):=by simp
end Go.dg
end
