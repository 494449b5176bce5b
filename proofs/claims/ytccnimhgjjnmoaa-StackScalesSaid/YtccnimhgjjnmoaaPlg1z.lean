/-
  Texts of the claims: Plg1z. No condition: lemmas and contracts.
-/
import Derived.Test.YtccnimhgjjnmoaaPla6z
import Derived.Test.YtccnimhgjjnmoaaPlb1z
import Derived.Test.YtccnimhgjjnmoaaPlc1z
set_option linter.all false
set_option maxRecDepth 100000
set_option maxHeartbeats 40000000
section
namespace Go.dg
section
variable {L:List Bk} {l:List Int} {i:Nat} {n:Int} {s:Nat}
end
theorem aFU {L:List Bk} (hL:aos L) {i:Nat} (hi:i<L.length):pos L (bk L i).1=i:=pos_at hL hi
def aEN:List Bk->Nat->Int
 |[],_=>0
 |b::L,s=>if s%2=1 then b.2+aEN L (s / 2)else aEN L (s / 2)
theorem aEx {L:List Bk} (hL:aos L):∀ (B A:List Bk) (u:Nat) (p:Option Int),L=A++B->u<2^B.length->(∀ b∈B,az4 p b.1=false)->aD2 L p (eg B u)=(0,aEN B u,2^A.length*u)
 |[],A,u,p,_,hu,_=>by
  have:u=0:=by simp at hu;omega
  subst this;simp[eg,aD2,aEN]
 |b::B,A,u,p,h,hu,hp=>by
  have hlen:A.length<L.length:=by rw[h];simp
  have hb:bk L A.length=b:=by rw[akX hlen];subst h;simp
  have hpos:pos L b.1=A.length:=by rw[<-hb];exact aFU hL hlen
  have h':L=(A++[b])++B:=by rw[h,List.append_assoc];rfl
  have Hv:u / 2<2^B.length:=akx (by simpa using hu)
  rw[eg,aEN];by_cases ho:u%2=1
  ·rw[if_pos ho,if_pos ho,aD6];have aHw:∀ c∈B,az4 (some b.1) c.1=false:=fun c hc=>by
    simp only[az4,decide_eq_false_iff_not];have h1:aos (b::B):=by rw[h]at hL;exact(List.pairwise_append.1 hL).2.1
    have:=(List.pairwise_cons.1 h1).1 c hc;omega
   rw[aEx hL B (A++[b]) (u / 2) (some b.1) h' Hv aHw];unfold fy;rw[if_neg (by omega),hp b (List.mem_cons_self ..),if_neg (by simp),if_pos rfl]
   have e1:lenOf L b.1=b.2:=by unfold lenOf;rw[hpos];show(bk L A.length).2=b.2;rw[hb]
   have e2:2^pos L b.1+2^(A++[b]).length*(u / 2)=2^A.length*u:=by
    rw[hpos,List.length_append,List.length_singleton,Nat.pow_succ,Nat.mul_assoc,show 2^A.length+2^A.length*(2*(u / 2))=2^A.length*(1+2*(u / 2)) by rw[Nat.mul_add,Nat.mul_one]]
    congr 1;omega
   dsimp only;rw[e1,e2]
  ·rw[if_neg ho,if_neg ho,aEx hL B (A++[b]) (u / 2) p h' Hv (fun c hc=>hp c (List.mem_cons_of_mem _ hc))]
   have e2:2^(A++[b]).length*(u / 2)=2^A.length*u:=by
    rw[List.length_append,List.length_singleton,Nat.pow_succ,Nat.mul_assoc]
    congr 1;omega
   rw[e2]
theorem aGc {L:List Bk} (hL:aos L) {u:Nat} (hu:u<2^L.length):aD2 L none (eg L u)=(0,aEN L u,u):=by
 have:=aEx hL L [] u none rfl hu (fun b _=>rfl)
 simpa using this
end Go.dg
end
section
namespace Go.dg
theorem aEY {l t f:Int} {L:List Bk} {u:Nat}:akv l t f L u=true<->u≠0/\l-t<=wN f L u-f/\wN f L u-f<=l+t:=by
 rw[apQ,Bool.and_eq_true,decide_eq_true_eq,akk]
/-! ### A further block -/
/-! ### A greater tolerance -/
end Go.dg
end
