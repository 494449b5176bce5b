/-
  Texts of the claims: Ykm1z. No condition: lemmas and contracts.
-/
import Derived.Test.YtccnimhgjjnmoaaSya1z
import Derived.Test.YtccnimhgjjnmoaaSya2z
import Derived.Test.YtccnimhgjjnmoaaSya3z
import Derived.Test.YtccnimhgjjnmoaaSya4z
import Derived.Test.YtccnimhgjjnmoaaSya5z
import Derived.Test.YtccnimhgjjnmoaaPla6z
import Derived.Test.YtccnimhgjjnmoaaYka7z
import Derived.Test.YtccnimhgjjnmoaaYka8z
import Derived.Test.YtccnimhgjjnmoaaYka9z
import Derived.Test.YtccnimhgjjnmoaaYka10z
import Derived.Test.YtccnimhgjjnmoaaYka11z
import Derived.Test.YtccnimhgjjnmoaaYka12z
import Derived.Test.YtccnimhgjjnmoaaYka13z
import Derived.Test.YtccnimhgjjnmoaaYka14z
import Derived.Test.YtccnimhgjjnmoaaYka15z
import Derived.Test.YtccnimhgjjnmoaaYka16z
import Derived.Test.YtccnimhgjjnmoaaYka17z
import Derived.Test.YtccnimhgjjnmoaaYka18z
import Derived.Test.YtccnimhgjjnmoaaPlb1z
import Derived.Test.YtccnimhgjjnmoaaPlc1z
import Derived.Test.YtccnimhgjjnmoaaYkc2z
import Derived.Test.YtccnimhgjjnmoaaPld1z
import Derived.Test.YtccnimhgjjnmoaaYke1z
import Derived.Test.YtccnimhgjjnmoaaPlf1z
import Derived.Test.YtccnimhgjjnmoaaPlh1z
import Derived.Test.YtccnimhgjjnmoaaYkh2z
set_option linter.all false
set_option maxRecDepth 100000
set_option maxHeartbeats 40000000
section
namespace Go.Proofs.Ytccnimhgjjnmoaa
open Go Go.Sy Go.dg
variable {Γ:bn}
def aFA:au:=axR (fun I _=>[(aa.of (I.length<=1000000))]) (fun I n=>bl (I.contains n))
theorem aGT {I:List Int} {n:Int} {i:Nat} (hi:i<I.length) (h:ca I i=n):I.contains n=true:=by
 rw[List.contains_iff_mem,<-h,alf hi];exact List.getElem_mem hi
theorem aGU {I:List Int} {n:Int} (h:∀ j,j<I.length->ca I j≠n):I.contains n=false:=by
 rw[Bool.eq_false_iff];intro hc;rw[List.contains_iff_mem]at hc;obtain⟨j,hj,e⟩:=List.mem_iff_getElem.1 hc;exact h j hj (by rw[alf hj];exact e)
theorem aE3:au.Ok Try.prog Γ 47 aFA:=ath (d:=0) (aP aR.nil bq.nil false 0) (aj Try.func47 rfl rfl) (fun _ _=>rfl) (by
 intro I n ⟨hI,_⟩;simp only[aa.ae]at hI;repeat'((conv=>whnf);first|apply And.intro|exact bA (by subst_vars;assumption)|intro h9)
 all_goals(try(conv=>whnf))<;>(subst_vars;try first|(apply Tk.mk;kernel_rfl)|exact⟨ah rfl⟩|exact⟨rfl⟩|exact⟨trivial⟩|rfl|contradiction|(apply Ob.mk;(try simp only[ag,ak,aa.ae])<;>(try dsimp only)<;>omega))
 refine⟨Nat,fun i=>i<=I.length/\∀ j,j<i->ca I j≠n,fun i=>⟨aI 18 [0,1,5] [.a (.sl 0 [] 0 I.length),.a (vI n),.a (vI i)],[],[.arr 3 kI I false false]⟩,fun i=>I.length-i,0,[0],⟨Nat.zero_le _,fun j h=>absurd h (Nat.not_lt_zero j)⟩,?_,?_⟩
 ·repeat'((conv=>whnf)<;>first|apply And.intro|intro _|rfl|trivial|exact ah rfl|exact aS ‹_› rfl|exact aT ‹_› rfl|((repeat' first|rfl|constructor);done))
 rintro i ⟨hi,hj⟩;by_cases hi1:i<I.length
 ·have p0:decide ((i:Int)<(I.length:Int))=true:=decide_eq_true (by omega)
  by_cases hw:ca I i=n
  ·have e1:(ca I i==n)=true:=beq_iff_eq.2 hw;rw[aGT hi1 hw];replace hw:=And.intro hw trivial;repeat'((conv=>whnf);first|apply And.intro|exact bA (by subst_vars;assumption)|intro h9)
   all_goals(try(conv=>whnf))<;>(subst_vars;try first|(apply Tk.mk;kernel_rfl)|exact⟨ah rfl⟩|exact⟨rfl⟩|exact⟨trivial⟩|rfl|contradiction|(apply Ob.mk;(try simp only[ag,ak,aa.ae])<;>(try dsimp only)<;>omega))
   all_goals first|exact⟨show 0+Int.toNat (i:Int)<I.length by omega⟩
  have e1:(ca I i==n)=false:=beq_eq_false_iff_ne.2 hw;repeat'((conv=>whnf);first|apply And.intro|exact bA (by subst_vars;assumption)|intro h9)
  all_goals(try(conv=>whnf))<;>(subst_vars;try first|(apply Tk.mk;kernel_rfl)|exact⟨ah rfl⟩|exact⟨rfl⟩|exact⟨trivial⟩|rfl|contradiction|(apply Ob.mk;(try simp only[ag,ak,aa.ae])<;>(try dsimp only)<;>omega))
  all_goals try first|exact⟨show 0+Int.toNat (i:Int)<I.length by omega⟩
  refine⟨i+1,[0],⟨hi1,fun j hj2=>by rcases Nat.lt_succ_iff_lt_or_eq.1 hj2 with h|rfl;exact hj j h;exact hw⟩,?_,by show I.length-(i+1)<I.length-i;omega⟩
  repeat'((conv=>whnf)<;>first|apply And.intro|intro _|rfl|trivial|exact ah rfl|exact aS ‹_› rfl|exact aT ‹_› rfl|((repeat' first|rfl|constructor);done))
 have p0:decide ((i:Int)<(I.length:Int))=false:=decide_eq_false (by omega)
 rw[aGU (fun j h=>hj j (by omega))]
 repeat'((conv=>whnf);first|apply And.intro|exact bA (by subst_vars;assumption)|intro h9)
 all_goals(try(conv=>whnf))<;>(subst_vars;try first|(apply Tk.mk;kernel_rfl)|exact⟨ah rfl⟩|exact⟨rfl⟩|exact⟨trivial⟩|rfl|contradiction|(apply Ob.mk;(try simp only[ag,ak,aa.ae])<;>(try dsimp only)<;>omega)))
attribute [local irreducible] bf ck aD1 y7 aQ
end Go.Proofs.Ytccnimhgjjnmoaa
end
