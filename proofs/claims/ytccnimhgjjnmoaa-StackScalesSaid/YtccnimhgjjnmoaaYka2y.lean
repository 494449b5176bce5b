/-
  Texts of the claims: Yka2y. No condition: lemmas and contracts.
-/
import Derived.Test.YtccnimhgjjnmoaaSya1z
import Derived.Test.YtccnimhgjjnmoaaSya2z
import Derived.Test.YtccnimhgjjnmoaaSya3z
import Derived.Test.YtccnimhgjjnmoaaSya4z
import Derived.Test.YtccnimhgjjnmoaaSya5z
import Derived.Test.YtccnimhgjjnmoaaPla6z
import Derived.Test.YtccnimhgjjnmoaaYka7z
import Derived.Test.YtccnimhgjjnmoaaYka8z
import Derived.Test.YtccnimhgjjnmoaaYka9z
import Derived.Test.YtccnimhgjjnmoaaYka10z
import Derived.Test.YtccnimhgjjnmoaaYka11z
import Derived.Test.YtccnimhgjjnmoaaYka12z
import Derived.Test.YtccnimhgjjnmoaaYka13z
import Derived.Test.YtccnimhgjjnmoaaYka14z
import Derived.Test.YtccnimhgjjnmoaaYka15z
import Derived.Test.YtccnimhgjjnmoaaYka16z
import Derived.Test.YtccnimhgjjnmoaaYka17z
import Derived.Test.YtccnimhgjjnmoaaYka18z
import Derived.Test.YtccnimhgjjnmoaaPlb1z
import Derived.Test.YtccnimhgjjnmoaaPlc1z
import Derived.Test.YtccnimhgjjnmoaaPld1z
import Derived.Test.YtccnimhgjjnmoaaPlf1z
import Derived.Test.YtccnimhgjjnmoaaPlg1z
import Derived.Test.YtccnimhgjjnmoaaPlh1z
import Derived.Test.YtccnimhgjjnmoaaPla1y
set_option linter.all false
set_option maxRecDepth 100000
set_option maxHeartbeats 40000000
section
namespace Go.Proofs.Ytccnimhgjjnmoaa
open Go Go.Sy Go.dg
variable {Γ:bn}
attribute [local irreducible] ck gi wN kG akS
def aCd (L:List Bk) (l t f:Int) (i:Nat):Bool:=kG f (l-t+f) (l+t+f) (L.eraseIdx i)==0
attribute [local irreducible] cL
def aCo (L:List Bk) (l t f:Int):cM:=match bf L l t f==0,kG f (l-t+f) (l+t+f) L==0 with
 |false,_=>akH (bf L l t f)
 |true,true=>akH 5
 |true,false=>⟨[.arr 3 kI (akS (aCd L l t f) L L.length) true true],.bF [.a (.sl 0 [] 0 (akS (aCd L l t f) L L.length).length),.a (vI 0)]⟩
def aDk:au:=al5 (fun L _ _ _=>[(aa.of (L.length<=1000000))]) aCo
noncomputable def aCW:List (Nat×au):=[(54,aBa),(57,alk),(103,xz)]
theorem aC2:aR Try.prog Γ aCW:=(((aR.nil.cons (aj Try.func103 rfl rfl).fn zQ).cons (aj Try.func57 rfl rfl).fn akY).cons (aj Try.func54 rfl rfl).fn fQ)
noncomputable def aCO:List (Nat×Body):=[(82,bo Try.f82),(83,bo Try.f83)]
theorem aCS:bq Try.prog aCO:=((bq.nil.cons (cg Try.func83 rfl rfl)).cons (cg Try.func82 rfl rfl))
noncomputable def aDn:Env:={jV.env aCW aCO false 0 with htr:=awU}
theorem aCU:aL Try.prog Γ aDn:=(aP aC2 aCS false 0).NA _
theorem aCT:au.Ok Try.prog Γ 44 aDk:=amN (d:=4) aCU (aj Try.func44 rfl rfl) (by
 intro L l t f K ⟨hL,_⟩ hK;simp only[aa.ae]at hL;have hone:=akP L l t f;unfold aCo at hK;cases h0:bf L l t f==0
 ·rw[h0]at hK;dsimp only[akH]at hK;have e0:(lu L [(l,t,f)]!=0)=true:=by rw[hone];unfold bne;rw[h0];rfl
  rw[<-hone]at hK;repeat'((conv=>whnf);first|apply And.intro|exact bA (by subst_vars;assumption)|intro h9)
  all_goals(try(conv=>whnf))<;>(subst_vars;try first|(apply Tk.mk;kernel_rfl)|exact⟨ah rfl⟩|exact⟨rfl⟩|exact⟨trivial⟩|rfl|contradiction|(apply Ob.mk;(try simp only[ag,ak,aa.ae])<;>(try dsimp only)<;>omega))
  all_goals first
   |(refine bu.base ⟨_,[],hK,trivial,rfl,?_⟩;(repeat'((conv=>whnf);(first|apply And.intro|intro _)));all_goals first|rfl|trivial)
   |exact⟨hL⟩
 rw[h0]at hK;have e0:(lu L [(l,t,f)]!=0)=false:=by rw[hone];unfold bne;rw[h0];rfl
 obtain⟨hB,hw⟩:=gg (eq_of_beq h0);obtain⟨hl,ht,hf⟩:=wE hw;have hn:=hB.Kg;have jJ:-1152921504606846976<=l/\l<=1152921504606846976:=by omega
 have UW:0<=t/\t<=1152921504606846976:=by omega
 cases h1:kG f (l-t+f) (l+t+f) L==0
 ·rw[h1]at hK;dsimp only at hK;have aoU:=avd (aCd L l t f) L;have azW:(akS (aCd L l t f) L 0).length=0:=by rw[aoU];rfl
  repeat'((conv=>whnf);first|apply And.intro|exact bA (by subst_vars;assumption)|intro h9)
  all_goals(try(conv=>whnf))<;>(subst_vars;try first|(apply Tk.mk;kernel_rfl)|exact⟨ah rfl⟩|exact⟨rfl⟩|exact⟨trivial⟩|rfl|contradiction|(apply Ob.mk;(try simp only[ag,ak,aa.ae])<;>(try dsimp only)<;>omega))
  all_goals try first|exact⟨hL⟩|exact⟨hB⟩
  refine⟨Nat,fun i=>i<=L.length,fun i=>⟨aI 53 [0,2,4,9,10,25,26,27] [.a (.sl 0 [] 0 L.length),.a (.fn 83 []),.a (.p 2 [] 0 0),.a (vI (kG f (l-t+f) (l+t+f) L)),.a (.sl 3 [] 0 (akS (aCd L l t f) L i).length),.a (.sl 0 [] 0 L.length),.a (vI L.length),.a (vI i)],[aI 11 [] []],[.arr 67 kK L false false,.box true [vI l,vI t,vI f],.box true [vI l,vI t,vI f],.arr 3 kI (akS (aCd L l t f) L i) true true]⟩,fun i=>L.length-i,0,[0,1,2,1000],Nat.zero_le _,?_,?_⟩
  ·repeat'((conv=>whnf)<;>first|apply And.intro|intro _|rfl|trivial|exact ah rfl|exact aS ‹_› rfl|exact aT ‹_› rfl|((repeat' first|rfl|constructor);done)|exact aoU|exact azW)
  rintro i hi;have DG:=awX (aCd L l t f) L i;by_cases hi1:i<L.length
  ·have p0:decide ((i:Int)<(L.length:Int))=true:=decide_eq_true (by omega)
   have hst:=avc (aCd L l t f) L i;rw[show bk L i=gr L i from(tb L i).symm]at hst;have hE:=ay6 L i;have Rn:0+0+(Int.toNat (i:Int)-0)<=L.length:=by omega
   have Nh:0+Int.toNat ((i:Int)+1)+(L.length-Int.toNat ((i:Int)+1))<=L.length:=by omega
   have ax0:gb (er L i):=by rw[hE];exact hB.erase i
   have hfl:(er L i).length<=1000000:=by have:=ax0.Kg;omega
   have akD:((akS (aCd L l t f) L i).length+1)*1<=1099511627776:=by omega
   cases hq:kG f (l-t+f) (l+t+f) (er L i)==0
   ·have AM:aCd L l t f i=false:=by unfold aCd;rw[<-hE];exact hq
    rw[AM]at hst;simp only[Bool.false_eq_true,if_false]at hst;repeat'((conv=>whnf);first|apply And.intro|exact bA (by subst_vars;assumption)|intro h9)
    all_goals(try(conv=>whnf))<;>(subst_vars;try first|(apply Tk.mk;kernel_rfl)|exact⟨ah rfl⟩|exact⟨rfl⟩|exact⟨trivial⟩|rfl|contradiction|(apply Ob.mk;(try simp only[ag,ak,aa.ae])<;>(try dsimp only)<;>omega))
    all_goals try first|trivial|exact⟨Rn⟩|exact⟨Nh⟩|exact⟨ax0⟩|exact⟨hfl⟩|exact⟨show 0+Int.toNat (i:Int)<L.length by omega⟩
    refine⟨i+1,[0,1,2,3],hi1,?_,by show L.length-(i+1)<L.length-i;omega⟩
    dsimp only;rw[hst];repeat'((conv=>whnf)<;>first|apply And.intro|intro _|rfl|trivial|exact ah rfl|exact aS ‹_› rfl|exact aT ‹_› rfl|((repeat' first|rfl|constructor);done))
   have AM:aCd L l t f i=true:=by unfold aCd;rw[<-hE];exact hq
   rw[AM]at hst;simp only[if_true]at hst;have amC:=congrArg List.length hst;rw[List.length_append,List.length_singleton]at amC;repeat'((conv=>whnf);first|apply And.intro|exact bA (by subst_vars;assumption)|intro h9)
   all_goals(try(conv=>whnf))<;>(subst_vars;try first|(apply Tk.mk;kernel_rfl)|exact⟨ah rfl⟩|exact⟨rfl⟩|exact⟨trivial⟩|rfl|contradiction|(apply Ob.mk;(try simp only[ag,ak,aa.ae])<;>(try dsimp only)<;>omega))
   all_goals try first|trivial|exact⟨Rn⟩|exact⟨Nh⟩|exact⟨ax0⟩|exact⟨hfl⟩|exact⟨akD⟩|exact⟨Nat.zero_add _⟩|exact⟨show 0+Int.toNat (i:Int)<L.length by omega⟩
   refine⟨i+1,[0,1,2,3],hi1,?_,by show L.length-(i+1)<L.length-i;omega⟩
   repeat'((conv=>whnf)<;>first|apply And.intro|intro _|rfl|trivial|exact ah rfl|exact aS ‹_› rfl|exact aT ‹_› rfl|((repeat' first|rfl|constructor);done)|exact amC.symm|exact⟨rfl,rfl,hst.symm⟩)
  have p0:decide ((i:Int)<(L.length:Int))=false:=decide_eq_false (by omega)
  have amB:i=L.length:=by omega
  rw[<-amB]at hK;clear amB;repeat'((conv=>whnf);first|apply And.intro|exact bA (by subst_vars;assumption)|intro h9)
  all_goals(try(conv=>whnf))<;>(subst_vars;try first|(apply Tk.mk;kernel_rfl)|exact⟨ah rfl⟩|exact⟨rfl⟩|exact⟨trivial⟩|rfl|contradiction|(apply Ob.mk;(try simp only[ag,ak,aa.ae])<;>(try dsimp only)<;>omega))
  refine bu.base ⟨_,[3],hK,⟨rfl,rfl,by simp,trivial⟩,rfl,?_⟩
  repeat'((conv=>whnf)<;>first|apply And.intro|intro _|rfl|trivial)
 rw[h1]at hK;dsimp only[akH]at hK;repeat'((conv=>whnf);first|apply And.intro|exact bA (by subst_vars;assumption)|intro h9)
 all_goals(try(conv=>whnf))<;>(subst_vars;try first|(apply Tk.mk;kernel_rfl)|exact⟨ah rfl⟩|exact⟨rfl⟩|exact⟨trivial⟩|rfl|contradiction|(apply Ob.mk;(try simp only[ag,ak,aa.ae])<;>(try dsimp only)<;>omega))
 all_goals first
  |(refine bu.base ⟨_,[],hK,trivial,rfl,?_⟩;(repeat'((conv=>whnf);(first|apply And.intro|intro _)));all_goals first|rfl|trivial)
  |exact⟨hL⟩
  |exact⟨hB⟩)
end Go.Proofs.Ytccnimhgjjnmoaa
end
section
namespace Go.Proofs.Ytccnimhgjjnmoaa
open Go Go.Sy Go.dg
variable {Γ:bn}
attribute [local irreducible] ck gi wN sub e7 ta kG adp x6 pw eg gf akv kB gm
def aCQ:au:=an4 (fun L _ _ _=>[(aa.of (L.length<=1000000))]) (fun L l t f K=>((bf L l t f==0)=false->K (akH (bf L l t f)))/\((bf L l t f==0)=true->((gN l t f L:Int)==0)=true->K (akH 5))/\
 ((bf L l t f==0)=true->((gN l t f L:Int)==0)=false->K ⟨[.arr 3 kI (akS (aCd L l t f) L L.length) true true],.bF [.a (.sl 0 [] 0 (akS (aCd L l t f) L L.length).length),.a (vI 0)]⟩))
theorem aCV:au.Ok Try.prog Γ 44 aCQ:=ank aCT (by
 intro L l t f K ⟨h1,h2,h3⟩;unfold aCo;cases h0:bf L l t f==0
 ·exact h1 h0
 obtain⟨hB,hw⟩:=gg (eq_of_beq h0);obtain⟨hl,ht,hf⟩:=wE hw;rw[alD L (by omega)]
 cases hg:((gN l t f L:Int)==0)
 ·exact h3 h0 hg
 ·exact h2 h0 hg)
end Go.Proofs.Ytccnimhgjjnmoaa
end
section
namespace Go.Proofs.Ytccnimhgjjnmoaa
open Go Go.Sy Go.dg
variable {Γ:bn}
theorem aDd {L:List Bk} (h:L.length<=12) (q:Nat->Bool):(akS q L L.length).length<=1000000:=by
 unfold akS;rw[List.length_map];exact Nat.le_trans (List.length_filter_le _ _) (by rw[List.length_range];omega)
attribute [local irreducible] bf ck gf eg wN aCd tx akS
end Go.Proofs.Ytccnimhgjjnmoaa
end
