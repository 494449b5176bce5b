/-
  Texts of the claims: Yku2z. No condition: lemmas and contracts.
-/
import Derived.Test.YtccnimhgjjnmoaaSya1z
import Derived.Test.YtccnimhgjjnmoaaSya2z
import Derived.Test.YtccnimhgjjnmoaaSya3z
import Derived.Test.YtccnimhgjjnmoaaSya4z
import Derived.Test.YtccnimhgjjnmoaaSya5z
import Derived.Test.YtccnimhgjjnmoaaPla6z
import Derived.Test.YtccnimhgjjnmoaaYka7z
import Derived.Test.YtccnimhgjjnmoaaYka8z
import Derived.Test.YtccnimhgjjnmoaaYka9z
import Derived.Test.YtccnimhgjjnmoaaYka10z
import Derived.Test.YtccnimhgjjnmoaaYka11z
import Derived.Test.YtccnimhgjjnmoaaYka12z
import Derived.Test.YtccnimhgjjnmoaaYka13z
import Derived.Test.YtccnimhgjjnmoaaYka14z
import Derived.Test.YtccnimhgjjnmoaaYka15z
import Derived.Test.YtccnimhgjjnmoaaYka16z
import Derived.Test.YtccnimhgjjnmoaaYka17z
import Derived.Test.YtccnimhgjjnmoaaYka18z
import Derived.Test.YtccnimhgjjnmoaaPlb1z
import Derived.Test.YtccnimhgjjnmoaaPlc1z
import Derived.Test.YtccnimhgjjnmoaaYkc2z
import Derived.Test.YtccnimhgjjnmoaaPlg1z
import Derived.Test.YtccnimhgjjnmoaaYkg2z
import Derived.Test.YtccnimhgjjnmoaaPlj1z
import Derived.Test.YtccnimhgjjnmoaaYkl1z
import Derived.Test.YtccnimhgjjnmoaaPlq1z
import Derived.Test.YtccnimhgjjnmoaaYkq2z
import Derived.Test.YtccnimhgjjnmoaaPlu1z
set_option linter.all false
set_option maxRecDepth 100000
set_option maxHeartbeats 40000000
section
namespace Go.Proofs.Ytccnimhgjjnmoaa
open Go Go.Sy Go.dg
variable {Γ:bn}
noncomputable def aHJ:List (Nat×au):=[(20,Df),(21,aIb),(24,amG),(25,aoi),(46,aEf),(23,alU)]
theorem aGK:aR Try.prog Γ aHJ:=((((((aR.nil.cons (aj Try.func23 rfl rfl).fn an2).cons (aj Try.func46 rfl rfl).fn aEc).cons (aj Try.func25 rfl rfl).fn anG).cons (aj Try.func24 rfl rfl).fn amH).cons (aj Try.func21 rfl rfl).fn sW).cons (aj Try.func20 rfl rfl).fn EJ)
theorem aFn {L:List Bk} {l t f t':Int} (ha:bf L l t f=0) (h0:0<=t') (h1:t'<=1125899906842624):bf L l t' f=0:=by
 obtain⟨hB,hw⟩:=gg ha;obtain⟨hl,ht,hf⟩:=wE hw;unfold bf;rw[atO hB,if_pos rfl];have:pe l t' f=true:=by unfold pe;rw[Bool.and_eq_true,Bool.and_eq_true,akk,akk,akk];omega
 rw[if_pos this]
structure aHL (L:List Bk) (l t f:Int):Prop where
 b1:((Cn L l t f).2!=0)=false
 b2:((aD1 L l t f (eg L (x9 l f L))).2!=0)=false
 b3:((aD1 L l t f (eg L (x9 l f L))).1-l !=wN f L (x9 l f L)-f-l)=false
 b4:(aD4 L l t f !=if 0-(wN f L (x9 l f L)-f-l)>wN f L (x9 l f L)-f-l then 0-(wN f L (x9 l f L)-f-l)else wN f L (x9 l f L)-f-l)=false
 r1:ak .i64 ((aD1 L l t f (eg L (x9 l f L))).1-l)
 r2:ak .i64 (0-(wN f L (x9 l f L)-f-l))
 r3:ak .i64 (aD4 L l t f-1)
 n1:(eg L (x9 l f L)).length<=1000
 w0:0<=aD4 L l t f
 some:aD4 L l t f<=1125899906842624->(bf L l (aD4 L l t f) f !=0)=false/\decide ((if bf L l (aD4 L l t f) f=0 then(gN l (aD4 L l t f) f L:Int)else 0)<1)=false
 none:aD4 L l t f≠0->aD4 L l t f-1<=1125899906842624->(bf L l (aD4 L l t f-1) f==0)=true/\((if bf L l (aD4 L l t f-1) f=0 then(gN l (aD4 L l t f-1) f L:Int)else 0)==0)=true
theorem aG2 {L:List Bk} {l t f:Int} (ha:bf L l t f=0) (hne:L≠[]):aHL L l t f:=by
 obtain⟨hB,hw⟩:=gg ha;obtain⟨hl,ht,hf⟩:=wE hw;obtain⟨n3,n4,n5,n6,n7⟩:=atN (l:=l) hf.1 hB.lens hne;obtain⟨e1,e2⟩:=aEH (t:=t) ha hne;have e3:=aFu ha n3 n4;have h1:=alH hf.1 hB.lens (x9 l f L);have h2:=hB.asr hf.1 hf.2 (x9 l f L);have hd:=ar3 (wN f L (x9 l f L)-f-l);have Nh:dst (wN f L (x9 l f L)-f-l)<=2251799853685248:=(axF (by omega)).2 (by omega)
 have aBw:=aGd (l:=l) hf.1 hB.lens hne;refine⟨by rw[e2];rfl,by rw[e3];rfl,by rw[e3];exact bne_self_eq_false _,by rw[e1,aqU];exact bne_self_eq_false _,by rw[e3];simp only[ak];omega,by simp only[ak];omega,by rw[e1];simp only[ak];omega,?_,by rw[e1];exact hd,fun hle=>?_,fun h0 hle=>?_⟩
 ·rw[ew];have:=ajs L.length (x9 l f L);have:=hB.Kg;omega
 ·have aFP:=aFn ha (t':=aD4 L l t f) (by rw[e1];exact hd) hle
  refine⟨by rw[aFP];rfl,?_⟩
  rw[if_pos aFP];rw[<-e1]at aBw;have:=List.length_pos_iff.2 aBw;refine decide_eq_false ?_;show ¬((gf l (aD4 L l t f) f L).length:Int)<1;omega
 ·have aFP:=aFn ha (t':=aD4 L l t f-1) (by rw[e1]at h0 ⊢;omega) hle
  refine⟨by rw[aFP];rfl,?_⟩
  rw[if_pos aFP];have hno:=aGv (f:=f) (l:=l) (t:=aD4 L l t f-1) hne (by rw[e1]at h0 ⊢;omega) (by rw[e1];omega)
  rw[beq_iff_eq];show((gf l (aD4 L l t f-1) f L).length:Int)=0;rw[hno];rfl
attribute [local irreducible] alg bf ck gf x9 eg wN Cn aD1
def aFi:au:=anQ (fun _ _ _ _=>[]) (fun _ _ _ _=>bl true)
theorem aEK:au.Ok Try.prog Γ 12 aFi:=alq (d:=0) (aP aGK bq.nil false 0) (aj Try.func12 rfl rfl) (fun _ _ _ _=>rfl) (by
 intro L l t f _;have z0:((0:Int)==0)=true:=rfl;have z1:((0:Int)!=0)=false:=rfl;have z2:((5:Int)!=0)=true:=rfl;cases hs:alg L
 ·have w0:(!alg L)=true:=by rw[hs];rfl
  repeat'((conv=>whnf);first|apply And.intro|exact bA (by subst_vars;assumption)|intro h9)
  all_goals(try(conv=>whnf))<;>(subst_vars;try first|(apply Tk.mk;kernel_rfl)|exact⟨ah rfl⟩|exact⟨rfl⟩|exact⟨trivial⟩|rfl|contradiction|(apply Ob.mk;(try simp only[ag,ak,aa.ae])<;>(try dsimp only)<;>omega))
 have hL:=ayO hs;have w0:(!alg L)=false:=by rw[hs];rfl
 cases h0:bf L l t f==0
 ·have hn:¬bf L l t f=0:=fun e=>by rw[e]at h0;cases h0
  have a1:(bf L l t f !=0)=true:=by unfold bne;rw[h0];rfl
  have a4:((Cn L l t f).2==bf L l t f)=true:=by unfold Cn;rw[if_neg hn];exact beq_self_eq_true _
  repeat'((conv=>whnf);first|apply And.intro|exact bA (by subst_vars;assumption)|intro h9)
  all_goals(try(conv=>whnf))<;>(subst_vars;try first|(apply Tk.mk;kernel_rfl)|exact⟨ah rfl⟩|exact⟨rfl⟩|exact⟨trivial⟩|rfl|contradiction|(apply Ob.mk;(try simp only[ag,ak,aa.ae])<;>(try dsimp only)<;>omega))
  all_goals try first|trivial|exact⟨hL⟩
 have ha:=eq_of_beq h0;cases k0:((L.length:Int)==0);rotate_left
 ·have he:L=[]:=List.eq_nil_of_length_eq_zero (by have:(L.length:Int)=0:=eq_of_beq k0;omega)
  have a4:((Cn L l t f).2==5)=true:=by unfold Cn;rw[if_pos ha,if_pos he];rfl
  clear he ha;repeat'((conv=>whnf);first|apply And.intro|exact bA (by subst_vars;assumption)|intro h9)
  all_goals(try(conv=>whnf))<;>(subst_vars;try first|(apply Tk.mk;kernel_rfl)|exact⟨ah rfl⟩|exact⟨rfl⟩|exact⟨trivial⟩|rfl|contradiction|(apply Ob.mk;(try simp only[ag,ak,aa.ae])<;>(try dsimp only)<;>omega))
  all_goals try first|trivial|exact⟨hL⟩
 have hne:L≠[]:=fun e=>by subst e;cases k0
 obtain⟨b1,b2,b3,b4,r1,r2,r3,n1,Kt,hsome,hnone⟩:=aG2 (t:=t) ha hne;clear ha;by_cases c1:aD4 L l t f<=1125899906842624
 ·have d1:decide (aD4 L l t f<=1125899906842624)=true:=decide_eq_true c1;obtain⟨s1,s2⟩:=hsome c1;by_cases c2:aD4 L l t f=0
  ·have d2:(aD4 L l t f==0)=true:=beq_iff_eq.2 c2;clear c2;repeat'((conv=>whnf);first|apply And.intro|exact bA (by subst_vars;assumption)|intro h9)
   all_goals(try(conv=>whnf))<;>(subst_vars;try first|(apply Tk.mk;kernel_rfl)|exact⟨ah rfl⟩|exact⟨rfl⟩|exact⟨trivial⟩|rfl|contradiction|(apply Ob.mk;(try simp only[ag,ak,aa.ae])<;>(try dsimp only)<;>omega))
   all_goals try first|exact⟨r1⟩|exact⟨r2⟩|exact⟨r3⟩|exact⟨hL⟩|exact⟨n1⟩
  have d2:(aD4 L l t f==0)=false:=beq_eq_false_iff_ne.2 c2;have d3:decide (aD4 L l t f-1>1125899906842624)=false:=decide_eq_false (by omega)
  obtain⟨s3,s4⟩:=hnone c2 (by omega)
  repeat'((conv=>whnf);first|apply And.intro|exact bA (by subst_vars;assumption)|intro h9)
  all_goals(try(conv=>whnf))<;>(subst_vars;try first|(apply Tk.mk;kernel_rfl)|exact⟨ah rfl⟩|exact⟨rfl⟩|exact⟨trivial⟩|rfl|contradiction|(apply Ob.mk;(try simp only[ag,ak,aa.ae])<;>(try dsimp only)<;>omega))
  all_goals try first|trivial|exact⟨r1⟩|exact⟨r2⟩|exact⟨r3⟩|exact⟨hL⟩|exact⟨n1⟩
 have d1:decide (aD4 L l t f<=1125899906842624)=false:=decide_eq_false c1;have d2:(aD4 L l t f==0)=false:=beq_eq_false_iff_ne.2 (by omega)
 by_cases c3:aD4 L l t f-1>1125899906842624
 ·have d3:decide (aD4 L l t f-1>1125899906842624)=true:=decide_eq_true c3;repeat'((conv=>whnf);first|apply And.intro|exact bA (by subst_vars;assumption)|intro h9)
  all_goals(try(conv=>whnf))<;>(subst_vars;try first|(apply Tk.mk;kernel_rfl)|exact⟨ah rfl⟩|exact⟨rfl⟩|exact⟨trivial⟩|rfl|contradiction|(apply Ob.mk;(try simp only[ag,ak,aa.ae])<;>(try dsimp only)<;>omega))
  all_goals try first|exact⟨r1⟩|exact⟨r2⟩|exact⟨r3⟩|exact⟨hL⟩|exact⟨n1⟩
 have d3:decide (aD4 L l t f-1>1125899906842624)=false:=decide_eq_false c3;obtain⟨s3,s4⟩:=hnone (by omega) (by omega)
 repeat'((conv=>whnf);first|apply And.intro|exact bA (by subst_vars;assumption)|intro h9)
 all_goals(try(conv=>whnf))<;>(subst_vars;try first|(apply Tk.mk;kernel_rfl)|exact⟨ah rfl⟩|exact⟨rfl⟩|exact⟨trivial⟩|rfl|contradiction|(apply Ob.mk;(try simp only[ag,ak,aa.ae])<;>(try dsimp only)<;>omega))
 all_goals try first|trivial|exact⟨r1⟩|exact⟨r2⟩|exact⟨r3⟩|exact⟨hL⟩|exact⟨n1⟩)
end Go.Proofs.Ytccnimhgjjnmoaa
end
