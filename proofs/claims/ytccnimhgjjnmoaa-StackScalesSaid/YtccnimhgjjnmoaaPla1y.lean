/-
  Texts of the claims: Pla1y. No condition: lemmas and contracts.
-/
import Derived.Test.YtccnimhgjjnmoaaSya1z
import Derived.Test.YtccnimhgjjnmoaaSya2z
import Derived.Test.YtccnimhgjjnmoaaSya3z
import Derived.Test.YtccnimhgjjnmoaaSya4z
import Derived.Test.YtccnimhgjjnmoaaSya5z
import Derived.Test.YtccnimhgjjnmoaaPla6z
import Derived.Test.YtccnimhgjjnmoaaYka7z
import Derived.Test.YtccnimhgjjnmoaaYka8z
import Derived.Test.YtccnimhgjjnmoaaYka9z
import Derived.Test.YtccnimhgjjnmoaaYka10z
import Derived.Test.YtccnimhgjjnmoaaYka11z
import Derived.Test.YtccnimhgjjnmoaaYka12z
import Derived.Test.YtccnimhgjjnmoaaYka13z
import Derived.Test.YtccnimhgjjnmoaaYka14z
import Derived.Test.YtccnimhgjjnmoaaYka15z
import Derived.Test.YtccnimhgjjnmoaaYka16z
import Derived.Test.YtccnimhgjjnmoaaYka17z
import Derived.Test.YtccnimhgjjnmoaaYka18z
import Derived.Test.YtccnimhgjjnmoaaPlb1z
import Derived.Test.YtccnimhgjjnmoaaPlc1z
import Derived.Test.YtccnimhgjjnmoaaPld1z
import Derived.Test.YtccnimhgjjnmoaaPlf1z
import Derived.Test.YtccnimhgjjnmoaaPlg1z
import Derived.Test.YtccnimhgjjnmoaaPlh1z
set_option linter.all false
set_option maxRecDepth 100000
set_option maxHeartbeats 40000000
section
namespace Go.dg
def aCe (n:Nat) (q:Nat->Bool):Nat:=(List.range (2^n)).countP q
theorem aCp (q:Nat->Bool):∀ m,(List.range (2*m)).countP q=(List.range m).countP (fun t=>q (2*t))+(List.range m).countP (fun t=>q (2*t+1))
 |0=>rfl
 |m+1=>by
  rw[show 2*(m+1)=2*m+1+1 by omega,List.range_succ,List.range_succ,List.range_succ,List.countP_append,List.countP_append,List.countP_append,List.countP_append,aCp q m]
  simp only[List.countP_cons,List.countP_nil];omega
theorem aCk (n:Nat) (q:Nat->Bool):aCe (n+1) q=aCe n (fun t=>q (2*t))+aCe n (fun t=>q (2*t+1)):=by
 unfold aCe;rw[Nat.pow_succ,Nat.mul_comm,aCp]
theorem aCf {n:Nat} {p q:Nat->Bool} (h:∀ s,s<2^n->p s=q s):aCe n p=aCe n q:=
 List.countP_congr fun s hs=>by rw[h s (List.mem_range.1 hs)]
theorem aC6 {n:Nat} {q:Nat->Bool} (h:∀ s,s<2^n->q s=false):aCe n q=0:=by
 unfold aCe;rw[List.countP_eq_zero];intro s hs;rw[h s (List.mem_range.1 hs)];simp
theorem aCn (f:Int):∀ (i:Nat) (L:List Bk) (g:Int->Bool),i<L.length->aCe L.length (fun s=>g (wN f L s)&&!gi i s)=aCe (L.length-1) (fun s=>g (wN f (L.eraseIdx i) s))
 |_,[],_,h=>by simp at h
 |0,b::L,g,_=>by
  simp only[List.length_cons,List.eraseIdx_cons_zero,Nat.add_sub_cancel];rw[aCk,aC6 (q:=fun t=>g (wN f (b::L) (2*t+1))&&!gi 0 (2*t+1)) (fun t _=>by rw[aCu,(amg t).2.2.1];simp),Nat.add_zero]
  refine aCf fun t _=>?_
  rw[aoD,aCu,(amg t).1];simp
 |i+1,b::L,g,h=>by
  have hi:i<L.length:=by simp at h;omega
  obtain⟨m,hm⟩:∃ m,L.length=m+1:=⟨L.length-1,by omega⟩
  simp only[List.length_cons,List.eraseIdx_cons_succ,Nat.add_sub_cancel];have e1:=aCn f i L g hi;have e2:=aCn f i L (fun x=>g (b.2+f+x)) hi
  rw[hm,Nat.add_sub_cancel]at e1 e2;rw[aCk,hm];refine Eq.trans ?_ (aCk m _).symm;refine congr (congrArg _ ?_) ?_
  ·refine(aCf fun t _=>?_).trans (e1.trans (aCf fun t _=>?_))
   ·rw[aoD,aus,(amg t).2.1]
   ·rw[aoD]
  ·refine(aCf fun t _=>?_).trans (e2.trans (aCf fun t _=>?_))
   ·rw[aqm,aus,(amg t).2.2.2]
   ·rw[aqm]
theorem aCZ {n:Nat} {q:Nat->Bool}:(aCe n (fun s=>decide (s≠0)&&q s):Int)=if q 0=true then(aCe n q:Int)-1 else aCe n q:=by
 unfold aCe;have h0:0<2^n:=Nat.two_pow_pos _;obtain⟨m,hm⟩:∃ m,2^n=m+1:=⟨2^n-1,by omega⟩
 rw[hm,List.range_succ_eq_map,List.countP_cons,List.countP_cons,List.countP_map,List.countP_map];have:(List.range m).countP ((fun s=>decide (s≠0)&&q s)∘Nat.succ)=(List.range m).countP (q∘Nat.succ):=List.countP_congr fun s _=>by simp
 rw[this];by_cases e:q 0=true<;>simp[e]
theorem aC7 (f lo hi:Int) (L:List Bk) (h:0<=hi):kG f lo hi L=aCe L.length (fun s=>al7 f lo hi L s):=by
 rw[anM L h];unfold anU aCe;rw[List.countP_eq_length_filter]
theorem aCB {f lo hi:Int} {L:List Bk} {i:Nat} (hi0:0<=hi) (h:i<L.length):kG f lo hi (L.eraseIdx i)=aCe L.length (fun s=>al7 f lo hi L s&&!gi i s):=by
 rw[aC7 _ _ _ _ hi0];have e1:=aCn f i L (amr lo hi) h;have hl:(L.eraseIdx i).length=L.length-1:=by rw[List.length_eraseIdx,if_pos h]
 have a1:=aCZ (n:=L.length-1) (q:=fun s=>amr lo hi (wN f (L.eraseIdx i) s))
 have a2:=aCZ (n:=L.length) (q:=fun s=>amr lo hi (wN f L s)&&!gi i s)
 have a3:(fun s=>al7 f lo hi L s&&!gi i s)=fun s=>decide (s≠0)&&(amr lo hi (wN f L s)&&!gi i s):=by funext s;unfold al7;rw[Bool.and_assoc]
 rw[a3];unfold al7;rw[hl,a1,a2,e1];simp only[akU,aCN,Bool.not_false,Bool.and_true]
theorem aC3 {f lo hi:Int} {L:List Bk} {i:Nat} (hi0:0<=hi) (h:i<L.length):kG f lo hi (L.eraseIdx i)=0<->∀ s∈anU f lo hi L,gi i s=true:=by
 rw[aCB hi0 h];unfold aCe anU;constructor
 ·intro h0 s hs;obtain⟨h1,h2⟩:=List.mem_filter.1 hs;have h0:(List.range (2^L.length)).countP (fun s=>al7 f lo hi L s&&!gi i s)=0:=by omega
  have:=List.countP_eq_zero.1 h0 s h1;rw[h2]at this;simpa using this
 ·intro h1;have:(List.range (2^L.length)).countP (fun s=>al7 f lo hi L s&&!gi i s)=0:=List.countP_eq_zero.2 fun s hs=>by
   intro h2;rw[Bool.and_eq_true]at h2;have:=h1 s (List.mem_filter.2 ⟨hs,h2.1⟩);rw[this]at h2;simp at h2
  omega
end Go.dg
end
section
namespace Go.dg
theorem aCr (l t f:Int) (L:List Bk):(gf l t f L).map Int.toNat=anU f (l-t+f) (l+t+f) L:=awS l t f L
/-! ### A set and the rest -/
end Go.dg
end
