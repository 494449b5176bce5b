/-
  Texts of the claims: Plc1y. No condition: lemmas and contracts.
-/
import Derived.Test.YtccnimhgjjnmoaaSya1z
import Derived.Test.YtccnimhgjjnmoaaSya2z
import Derived.Test.YtccnimhgjjnmoaaSya3z
import Derived.Test.YtccnimhgjjnmoaaSya4z
import Derived.Test.YtccnimhgjjnmoaaSya5z
import Derived.Test.YtccnimhgjjnmoaaPla6z
import Derived.Test.YtccnimhgjjnmoaaYka7z
import Derived.Test.YtccnimhgjjnmoaaYka8z
import Derived.Test.YtccnimhgjjnmoaaYka9z
import Derived.Test.YtccnimhgjjnmoaaYka10z
import Derived.Test.YtccnimhgjjnmoaaYka11z
import Derived.Test.YtccnimhgjjnmoaaYka12z
import Derived.Test.YtccnimhgjjnmoaaYka13z
import Derived.Test.YtccnimhgjjnmoaaYka14z
import Derived.Test.YtccnimhgjjnmoaaYka15z
import Derived.Test.YtccnimhgjjnmoaaYka16z
import Derived.Test.YtccnimhgjjnmoaaYka17z
import Derived.Test.YtccnimhgjjnmoaaYka18z
import Derived.Test.YtccnimhgjjnmoaaPlb1z
import Derived.Test.YtccnimhgjjnmoaaPlc1z
import Derived.Test.YtccnimhgjjnmoaaPld1z
import Derived.Test.YtccnimhgjjnmoaaPlf1z
import Derived.Test.YtccnimhgjjnmoaaPlg1z
import Derived.Test.YtccnimhgjjnmoaaPlh1z
import Derived.Test.YtccnimhgjjnmoaaYkl1z
import Derived.Test.YtccnimhgjjnmoaaPlp1z
import Derived.Test.YtccnimhgjjnmoaaYkp2z
import Derived.Test.YtccnimhgjjnmoaaPlr1z
import Derived.Test.YtccnimhgjjnmoaaYkr2z
import Derived.Test.YtccnimhgjjnmoaaPla1y
set_option linter.all false
set_option maxRecDepth 100000
set_option maxHeartbeats 40000000
section
namespace Go.dg
def aCi (l:List Nat) (i:Nat):Nat:=(l.take i).foldl (fun a b=>a &&& b) (l.headD 0)
theorem aCX (i:Nat):∀ (l:List Nat) (a:Nat),gi i (l.foldl (fun a b=>a &&& b) a)=(gi i a&&l.all (gi i))
 |[],a=>by simp
 |b::l,a=>by
  rw[List.foldl_cons,aCX i l,List.all_cons,aCg,Nat.testBit_and,<-aCg,<-aCg,Bool.and_assoc]
theorem aDj {l:List Nat} (h0:l≠[]) (i:Nat):gi i (aCi l l.length)=true<->∀ s∈l,gi i s=true:=by
 unfold aCi;rw[List.take_length,aCX];cases l with
 |nil=>exact absurd rfl h0
 |cons a l=>
  rw[Bool.and_eq_true,List.all_eq_true];exact⟨fun h=>h.2,fun h=>⟨h a (List.mem_cons_self ..),h⟩⟩
theorem aCD {L:List Bk} {q:Nat->Bool} {s:Nat} (h:∀ i,i<L.length->gi i s=q i):eg L s=akS q L L.length:=by
 rw[aCE];unfold akS bk
 congr 1
 exact List.filter_congr fun i hi=>h i (List.mem_range.1 hi)
theorem aDr {l t f:Int} {L:List Bk} (hh:0<=l+t+f) (h0:gf l t f L≠[]):
 eg L (aCi ((gf l t f L).map Int.toNat) (gf l t f L).length)=akS (fun i=>kG f (l-t+f) (l+t+f) (L.eraseIdx i)==0) L L.length:=by
 refine aCD fun i hi=>?_
 have h1:=aDj (l:=(gf l t f L).map Int.toNat) (by simpa using h0) i
 rw[List.length_map]at h1;rw[Bool.eq_iff_iff,h1,aCr,beq_iff_eq,aC3 hh hi]
/-! ### A set and the rest -/
end Go.dg
end
section
namespace Go.dg
def aIU (k:Int) (L:List Bk):List Bk:=L.map fun b=>(b.1,k*b.2)
theorem aI2 (k:Int) (L:List Bk):(aIU k L).length=L.length:=List.length_map _
theorem aJF (k f:Int):∀ (L:List Bk) (s:Nat),wN (k*f) (aIU k L) s=k*wN f L s
 |[],_=>(Int.mul_zero k).symm
 |b::L,s=>by
  show(if s%2=1 then k*b.2+k*f else 0)+wN (k*f) (aIU k L) (s / 2)=k*((if s%2=1 then b.2+f else 0)+wN f L (s / 2))
  rw[aJF k f L,Int.mul_add];split
  ·rw[Int.mul_add]
  ·rw[Int.mul_zero]
theorem aI6 (k:Int):∀ (L:List Bk) (s:Nat),eg (aIU k L) s=eg L s
 |[],_=>rfl
 |b::L,s=>by
  show(if s%2=1 then b.1::eg (aIU k L) (s / 2)else eg (aIU k L) (s / 2))=if s%2=1 then b.1::eg L (s / 2)else eg L (s / 2)
  rw[aI6 k L]
theorem aJg {k a b:Int} (hk:1<=k):k*a<=k*b<->a<=b:=
 ⟨fun h=>Int.le_of_mul_le_mul_left h (by omega),fun h=>Int.mul_le_mul_of_nonneg_left h (by omega)⟩
theorem aJU {k n lo hi:Int} (hk:1<=k):aQ (k*n) (k*lo) (k*hi)=aQ n lo hi:=by
 rw[Bool.eq_iff_iff,akk,akk,aJg hk,aJg hk]
theorem aJ4 {k l t f:Int} (hk:1<=k) (L:List Bk) (u:Nat):akv (k*l) (k*t) (k*f) (aIU k L) u=akv l t f L u:=by
 rw[apQ,apQ,aJF,<-Int.mul_sub,<-Int.mul_sub,<-Int.mul_add,aJU hk]
theorem aI4 {k l t f:Int} (hk:1<=k) (L:List Bk):gf (k*l) (k*t) (k*f) (aIU k L)=gf l t f L:=by
 unfold gf RK;rw[aI2,show akv (k*l) (k*t) (k*f) (aIU k L)=akv l t f L from funext fun u=>aJ4 hk L u]
theorem aJS {k l t f:Int} (hk:1<=k) (L:List Bk):aku (k*l) (k*t) (k*f) (aIU k L)=aku l t f L:=by
 unfold aku;rw[aI2,aI4 hk]
theorem aJJ {k l t f:Int} (hk:1<=k) {L:List Bk} (hh:0<=l+t+f) (h0:gf l t f L≠[]):
 akS (fun i=>kG (k*f) (k*l-k*t+k*f) (k*l+k*t+k*f) ((aIU k L).eraseIdx i)==0) (aIU k L) (aIU k L).length=akS (fun i=>kG f (l-t+f) (l+t+f) (L.eraseIdx i)==0) L L.length:=by
 have qS:0<=k*l+k*t+k*f:=by rw[<-Int.mul_add,<-Int.mul_add];exact Int.mul_nonneg (by omega) hh
 rw[<-aDr hh h0,<-aDr qS (by rw[aI4 hk];exact h0),aI4 hk,aI6]
theorem aJK {k:Int} {L:List Bk} {i:Nat} (h:i<L.length):aIU k (L.take (i+1))=aIU k (L.take i)++[((bk L i).1,k*(bk L i).2)]:=by
 unfold aIU;rw[List.take_succ,List.getElem?_eq_getElem h,List.map_append,akX h];rfl
theorem aJO {k:Int} (hk:1<=k) (lQ:k<=100) {L:List Bk} (hB:gb L) (hl:∀ b∈L,b.2<=1073741824):gb (aIU k L):=by
 refine⟨by rw[aI2];exact hB.Kg,fun b hb=>?_,?_⟩
 ·obtain⟨c,hc,rfl⟩:=List.mem_map.1 hb;have h:=hB.len hc;have h2:=hl c hc;simp only[alB,aQ,Bool.and_eq_true,decide_eq_true_eq];have h3:k*c.2<=100*c.2:=Int.mul_le_mul_of_nonneg_right lQ (by omega)
  have h4:1*c.2<=k*c.2:=Int.mul_le_mul_of_nonneg_right hk (by omega)
  omega
 ·exact List.pairwise_map.2 hB.aos
end Go.dg
end
