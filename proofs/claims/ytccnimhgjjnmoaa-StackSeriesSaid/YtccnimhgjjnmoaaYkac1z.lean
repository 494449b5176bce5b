/-
  Texts of the claims: Ykac1z. No condition: lemmas and contracts.
-/
import Derived.Test.YtccnimhgjjnmoaaSya1z
import Derived.Test.YtccnimhgjjnmoaaSya2z
import Derived.Test.YtccnimhgjjnmoaaSya3z
import Derived.Test.YtccnimhgjjnmoaaSya4z
import Derived.Test.YtccnimhgjjnmoaaSya5z
import Derived.Test.YtccnimhgjjnmoaaPla6z
import Derived.Test.YtccnimhgjjnmoaaYka7z
import Derived.Test.YtccnimhgjjnmoaaYka8z
import Derived.Test.YtccnimhgjjnmoaaYka9z
import Derived.Test.YtccnimhgjjnmoaaYka10z
import Derived.Test.YtccnimhgjjnmoaaYka11z
import Derived.Test.YtccnimhgjjnmoaaYka12z
import Derived.Test.YtccnimhgjjnmoaaYka13z
import Derived.Test.YtccnimhgjjnmoaaYka14z
import Derived.Test.YtccnimhgjjnmoaaYka15z
import Derived.Test.YtccnimhgjjnmoaaYka16z
import Derived.Test.YtccnimhgjjnmoaaYka17z
import Derived.Test.YtccnimhgjjnmoaaYka18z
import Derived.Test.YtccnimhgjjnmoaaPld1z
import Derived.Test.YtccnimhgjjnmoaaPlp1z
import Derived.Test.YtccnimhgjjnmoaaYkp2z
import Derived.Test.YtccnimhgjjnmoaaPls1z
import Derived.Test.YtccnimhgjjnmoaaYks2z
set_option linter.all false
set_option maxRecDepth 100000
set_option maxHeartbeats 40000000
section
namespace Go.Proofs.Ytccnimhgjjnmoaa
open Go Go.Sy Go.dg
variable {Γ:bn}
noncomputable def aHr:List (Nat×au):=[(21,aIb),(35,apA),(26,anH),(27,aqK)]
theorem aGm:aR Try.prog Γ aHr:=((((aR.nil.cons (aj Try.func27 rfl rfl).fn arO).cons (aj Try.func26 rfl rfl).fn ao7).cons (aj Try.func35 rfl rfl).fn aqx).cons (aj Try.func21 rfl rfl).fn sW)
theorem aEE {L:List Bk} {l t f s m:Int} (h:¬bf L l t f=0):aky L l t f s m=(0,bf L l t f):=by unfold aky;rw[if_neg h]
theorem aED {L:List Bk} {l t f s m:Int} (h:bf L l t f=0) (h1:¬(aQ s 1 1125899906842624=true/\aQ m 1 200=true)):aky L l t f s m=(0,1):=by unfold aky;rw[if_pos h,if_neg h1]
theorem aG4 {L:List Bk} {l t f s m:Int} (h:bf L l t f=0) (h1:aQ s 1 1125899906842624=true/\aQ m 1 200=true) (h2:l+s*(m-1)>1125899906842624):aky L l t f s m=(0,3):=by unfold aky;rw[if_pos h,if_pos h1,if_pos h2]
theorem aHa {L:List Bk} {l t f s m:Int} (h:bf L l t f=0) (h1:aQ s 1 1125899906842624=true/\aQ m 1 200=true) (h2:¬l+s*(m-1)>1125899906842624):aky L l t f s m=(((aow L l t f s m.toNat:Nat):Int),0):=by unfold aky;rw[if_pos h,if_pos h1,if_neg h2]
theorem aG1 {L:List Bk} {l t f s:Int} {j:Nat} (h:0<=lj l s j+t+f):atL L l t f s j=true<->gf (lj l s j) t f L=[]:=by
 unfold atL;rw[beq_iff_eq];exact au0 h
attribute [local irreducible] ck bf aky gf atL
def aEX:au:=avM (fun _ _ _ _ _ _=>[]) (fun _ _ _ _ _ _=>bl true)
theorem aEu:au.Ok Try.prog Γ 5 aEX:=auQ (d:=0) (aP aGm bq.nil false 0) (aj Try.func5 rfl rfl) (fun _ _ _ _ _ _=>rfl) (by
 intro L l t f s m _;have z0:((0:Int)==0)=true:=rfl;have z1:((1:Int)!=0)=true:=rfl;have z2:((3:Int)!=0)=true:=rfl;have z3:((0:Int)!=0)=false:=rfl;by_cases g1:L.length<=8
 ·have d1:decide ((L.length:Int)>8)=false:=decide_eq_false (by omega)
  have d3:decide ((L.length:Int)>30)=false:=decide_eq_false (by omega)
  have hL:L.length<=1000000:=by omega
  by_cases c1:m>12
  ·have d4:decide (m>12)=true:=decide_eq_true c1;by_cases c2:m<=200
   ·have d5:decide (m<=200)=true:=decide_eq_true c2;repeat'((conv=>whnf);first|apply And.intro|exact bA (by subst_vars;assumption)|intro h9)
    all_goals(try(conv=>whnf))<;>(subst_vars;try first|(apply Tk.mk;kernel_rfl)|exact⟨ah rfl⟩|exact⟨rfl⟩|exact⟨trivial⟩|rfl|contradiction|(apply Ob.mk;(try simp only[ag,ak,aa.ae])<;>(try dsimp only)<;>omega))
   have d5:decide (m<=200)=false:=decide_eq_false c2;cases h0:bf L l t f==0
   ·have hn:¬bf L l t f=0:=fun e=>by rw[e]at h0;cases h0
    have a1:(bf L l t f !=0)=true:=by unfold bne;rw[h0];rfl
    have he:=aEE (s:=s) (m:=m) hn;have a3:((aky L l t f s m).1==0)=true:=by rw[he];rfl
    have a4:((aky L l t f s m).2==bf L l t f)=true:=by rw[he];exact beq_self_eq_true _
    clear he;repeat'((conv=>whnf);first|apply And.intro|exact bA (by subst_vars;assumption)|intro h9)
    all_goals(try(conv=>whnf))<;>(subst_vars;try first|(apply Tk.mk;kernel_rfl)|exact⟨ah rfl⟩|exact⟨rfl⟩|exact⟨trivial⟩|rfl|contradiction|(apply Ob.mk;(try simp only[ag,ak,aa.ae])<;>(try dsimp only)<;>omega))
    all_goals try first|trivial|exact⟨hL⟩
   have ha:=eq_of_beq h0;have a1:(bf L l t f !=0)=false:=by unfold bne;rw[h0];rfl
   have he:=aED (s:=s) (m:=m) ha (fun⟨h1,h2⟩=>by have:=akk.1 h2;omega)
   have a3:((aky L l t f s m).1==0)=true:=by rw[he];rfl
   have a4:((aky L l t f s m).2==1)=true:=by rw[he];rfl
   clear he ha;by_cases s1:s<1
   ·have e1:decide (s<1)=true:=decide_eq_true s1;repeat'((conv=>whnf);first|apply And.intro|exact bA (by subst_vars;assumption)|intro h9)
    all_goals(try(conv=>whnf))<;>(subst_vars;try first|(apply Tk.mk;kernel_rfl)|exact⟨ah rfl⟩|exact⟨rfl⟩|exact⟨trivial⟩|rfl|contradiction|(apply Ob.mk;(try simp only[ag,ak,aa.ae])<;>(try dsimp only)<;>omega))
    all_goals try first|trivial|exact⟨hL⟩
   have e1:decide (s<1)=false:=decide_eq_false s1;by_cases s2:s>1125899906842624
   ·have e2:decide (s>1125899906842624)=true:=decide_eq_true s2;repeat'((conv=>whnf);first|apply And.intro|exact bA (by subst_vars;assumption)|intro h9)
    all_goals(try(conv=>whnf))<;>(subst_vars;try first|(apply Tk.mk;kernel_rfl)|exact⟨ah rfl⟩|exact⟨rfl⟩|exact⟨trivial⟩|rfl|contradiction|(apply Ob.mk;(try simp only[ag,ak,aa.ae])<;>(try dsimp only)<;>omega))
    all_goals try first|trivial|exact⟨hL⟩
   have e2:decide (s>1125899906842624)=false:=decide_eq_false s2;have e3:decide (m<1)=false:=decide_eq_false (by omega)
   have e4:decide (m>200)=true:=decide_eq_true (by omega)
   repeat'((conv=>whnf);first|apply And.intro|exact bA (by subst_vars;assumption)|intro h9)
   all_goals(try(conv=>whnf))<;>(subst_vars;try first|(apply Tk.mk;kernel_rfl)|exact⟨ah rfl⟩|exact⟨rfl⟩|exact⟨trivial⟩|rfl|contradiction|(apply Ob.mk;(try simp only[ag,ak,aa.ae])<;>(try dsimp only)<;>omega))
   all_goals try first|trivial|exact⟨hL⟩
  have d4:decide (m>12)=false:=decide_eq_false c1;cases h0:bf L l t f==0
  ·have hn:¬bf L l t f=0:=fun e=>by rw[e]at h0;cases h0
   have a1:(bf L l t f !=0)=true:=by unfold bne;rw[h0];rfl
   have he:=aEE (s:=s) (m:=m) hn;have a3:((aky L l t f s m).1==0)=true:=by rw[he];rfl
   have a4:((aky L l t f s m).2==bf L l t f)=true:=by rw[he];exact beq_self_eq_true _
   clear he;repeat'((conv=>whnf);first|apply And.intro|exact bA (by subst_vars;assumption)|intro h9)
   all_goals(try(conv=>whnf))<;>(subst_vars;try first|(apply Tk.mk;kernel_rfl)|exact⟨ah rfl⟩|exact⟨rfl⟩|exact⟨trivial⟩|rfl|contradiction|(apply Ob.mk;(try simp only[ag,ak,aa.ae])<;>(try dsimp only)<;>omega))
   all_goals try first|trivial|exact⟨hL⟩
  have ha:=eq_of_beq h0;have a1:(bf L l t f !=0)=false:=by unfold bne;rw[h0];rfl
  have e4:decide (m>200)=false:=decide_eq_false (by omega)
  by_cases s1:s<1
  ·have e1:decide (s<1)=true:=decide_eq_true s1;have he:=aED (s:=s) (m:=m) ha (fun⟨h1,h2⟩=>by have:=akk.1 h1;have:=akk.1 h2;omega)
   have a3:((aky L l t f s m).1==0)=true:=by rw[he];rfl
   have a4:((aky L l t f s m).2==1)=true:=by rw[he];rfl
   clear he;repeat'((conv=>whnf);first|apply And.intro|exact bA (by subst_vars;assumption)|intro h9)
   all_goals(try(conv=>whnf))<;>(subst_vars;try first|(apply Tk.mk;kernel_rfl)|exact⟨ah rfl⟩|exact⟨rfl⟩|exact⟨trivial⟩|rfl|contradiction|(apply Ob.mk;(try simp only[ag,ak,aa.ae])<;>(try dsimp only)<;>omega))
   all_goals try first|trivial|exact⟨hL⟩
  have e1:decide (s<1)=false:=decide_eq_false s1;by_cases s2:s>1125899906842624
  ·have e2:decide (s>1125899906842624)=true:=decide_eq_true s2;have he:=aED (s:=s) (m:=m) ha (fun⟨h1,h2⟩=>by have:=akk.1 h1;have:=akk.1 h2;omega)
   have a3:((aky L l t f s m).1==0)=true:=by rw[he];rfl
   have a4:((aky L l t f s m).2==1)=true:=by rw[he];rfl
   clear he;repeat'((conv=>whnf);first|apply And.intro|exact bA (by subst_vars;assumption)|intro h9)
   all_goals(try(conv=>whnf))<;>(subst_vars;try first|(apply Tk.mk;kernel_rfl)|exact⟨ah rfl⟩|exact⟨rfl⟩|exact⟨trivial⟩|rfl|contradiction|(apply Ob.mk;(try simp only[ag,ak,aa.ae])<;>(try dsimp only)<;>omega))
   all_goals try first|trivial|exact⟨hL⟩
  have e2:decide (s>1125899906842624)=false:=decide_eq_false s2;by_cases s3:m<1
  ·have e3:decide (m<1)=true:=decide_eq_true s3;have he:=aED (s:=s) (m:=m) ha (fun⟨h1,h2⟩=>by have:=akk.1 h1;have:=akk.1 h2;omega)
   have a3:((aky L l t f s m).1==0)=true:=by rw[he];rfl
   have a4:((aky L l t f s m).2==1)=true:=by rw[he];rfl
   clear he;repeat'((conv=>whnf);first|apply And.intro|exact bA (by subst_vars;assumption)|intro h9)
   all_goals(try(conv=>whnf))<;>(subst_vars;try first|(apply Tk.mk;kernel_rfl)|exact⟨ah rfl⟩|exact⟨rfl⟩|exact⟨trivial⟩|rfl|contradiction|(apply Ob.mk;(try simp only[ag,ak,aa.ae])<;>(try dsimp only)<;>omega))
   all_goals try first|trivial|exact⟨hL⟩
  have e3:decide (m<1)=false:=decide_eq_false s3;have hin:aQ s 1 1125899906842624=true/\aQ m 1 200=true:=⟨akk.2 (by omega),akk.2 (by omega)⟩
  obtain⟨hB,hw⟩:=gg ha;obtain⟨hl,ht,hf⟩:=wE hw;have hml:=ayC (s:=s) (m:=m) (by omega) (by omega)
  rw[Int.mul_comm]at hml;have r1:ak .i64 ((m-1)*s):=by simp only[ak];omega
  have r2:ak .i64 (l+(m-1)*s):=by simp only[ak];omega
  have jJ:-1152921504606846976<=l/\l<=1152921504606846976:=by omega
  have UW:-1152921504606846976<=t/\t<=1152921504606846976:=by omega
  by_cases hr:l+(m-1)*s>1125899906842624
  ·have e5:decide (l+(m-1)*s>1125899906842624)=true:=decide_eq_true hr;have he:=aG4 ha hin (by rw[Int.mul_comm];exact hr)
   have a3:((aky L l t f s m).1==0)=true:=by rw[he];rfl
   have a4:((aky L l t f s m).2==3)=true:=by rw[he];rfl
   clear he ha;repeat'((conv=>whnf);first|apply And.intro|exact bA (by subst_vars;assumption)|intro h9)
   all_goals(try(conv=>whnf))<;>(subst_vars;try first|(apply Tk.mk;kernel_rfl)|exact⟨ah rfl⟩|exact⟨rfl⟩|exact⟨trivial⟩|rfl|contradiction|(apply Ob.mk;(try simp only[ag,ak,aa.ae])<;>(try dsimp only)<;>omega))
   all_goals try first|trivial|exact⟨hL⟩
  have e5:decide (l+(m-1)*s>1125899906842624)=false:=decide_eq_false hr;have he:=aHa ha hin (by rw[Int.mul_comm];exact hr)
  have a4:((aky L l t f s m).2==0)=true:=by rw[he];rfl
  have aF8:∀ j:Nat,aow L l t f s m.toNat=j->((aky L l t f s m).1==(j:Int))=true:=fun j hj=>by rw[he,hj];exact beq_self_eq_true _
  clear he;obtain⟨m,rfl⟩:∃ k:Nat,m=(k:Int):=⟨m.toNat,by omega⟩
  rw[Int.toNat_natCast]at aF8;have aAl:∀ j,j<m->l<=lj l s j/\lj l s j<=1125899906842624:=fun j hj=>azc (by omega) (by rw[Int.mul_comm];omega) hj
  clear ha;repeat'((conv=>whnf);first|apply And.intro|exact bA (by subst_vars;assumption)|intro h9)
  all_goals(try(conv=>whnf))<;>(subst_vars;try first|(apply Tk.mk;kernel_rfl)|exact⟨ah rfl⟩|exact⟨rfl⟩|exact⟨trivial⟩|rfl|contradiction|(apply Ob.mk;(try simp only[ag,ak,aa.ae])<;>(try dsimp only)<;>omega))
  all_goals try first|exact⟨hL⟩
  refine⟨Nat,fun j=>j<=m/\∀ i,i<j->atL L l t f s i=false,fun j=>⟨aI 117 [0,2,3,5,9,10,12] [.a (.sl 0 [] 0 L.length),.a (vI s),.a (vI m),.a (.p 1 [] 0 0),.a (vI (aky L l t f s m).1),.a (vI (aky L l t f s m).2),.a (vI j)],[],[.arr 67 kK L false false,.box true [vI l,vI t,vI f]]⟩,fun j=>m-j,0,[0,1],⟨Nat.zero_le _,fun i h=>absurd h (Nat.not_lt_zero i)⟩,?_,?_⟩
  ·repeat'((conv=>whnf)<;>first|apply And.intro|intro _|rfl|trivial|exact ah rfl|exact aS ‹_› rfl|exact aT ‹_› rfl|((repeat' first|rfl|constructor);done))
  rintro j ⟨hj,hno⟩;by_cases Ho:j<m
  ·have p0:decide ((j:Int)<(m:Int))=true:=decide_eq_true (by omega)
   have hb:=aAl j Ho;have Y8:l<=l+(j:Int)*s/\l+(j:Int)*s<=1125899906842624:=hb;have oz:-1152921504606846976<=l+(j:Int)*s/\l+(j:Int)*s<=1152921504606846976:=by omega
   have r3:ak .i64 ((j:Int)*s):=by simp only[ak];omega
   have r4:ak .i64 (l+(j:Int)*s):=by simp only[ak];omega
   have aHj:=aG1 (L:=L) (l:=l) (t:=t) (f:=f) (s:=s) (j:=j) (by omega)
   have nv:(gf (l+(j:Int)*s) t f L).length<=2^L.length:=awR _ t f L;have aHx:=akO hB.Kg;cases hq:atL L l t f s j
   ·have hne:¬gf (l+(j:Int)*s) t f L=[]:=fun e=>by rw[aHj.2 e]at hq;cases hq
    have hpos:=List.length_pos_iff.2 hne;have q0:decide (((gf (l+(j:Int)*s) t f L).length:Int)>0)=true:=decide_eq_true (by omega)
    repeat'((conv=>whnf);first|apply And.intro|exact bA (by subst_vars;assumption)|intro h9)
    all_goals(try(conv=>whnf))<;>(subst_vars;try first|(apply Tk.mk;kernel_rfl)|exact⟨ah rfl⟩|exact⟨rfl⟩|exact⟨trivial⟩|rfl|contradiction|(apply Ob.mk;(try simp only[ag,ak,aa.ae])<;>(try dsimp only)<;>omega))
    all_goals try first|exact⟨hB⟩
    refine⟨j+1,[0,1],⟨Ho,fun i hi=>by rcases Nat.lt_succ_iff_lt_or_eq.1 hi with h|rfl;exact hno i h;exact hq⟩,?_,by show m-(j+1)<m-j;omega⟩
    repeat'((conv=>whnf)<;>first|apply And.intro|intro _|rfl|trivial|exact ah rfl|exact aS ‹_› rfl|exact aT ‹_› rfl|((repeat' first|rfl|constructor);done))
   have aIh:(gf (l+(j:Int)*s) t f L).length=0:=by rw[show gf (l+(j:Int)*s) t f L=[]from aHj.1 hq];rfl
   have q0:decide (((gf (l+(j:Int)*s) t f L).length:Int)>0)=false:=decide_eq_false (by omega)
   have a5:=aF8 j (ayM Ho hq hno);clear aIh;repeat'((conv=>whnf);first|apply And.intro|exact bA (by subst_vars;assumption)|intro h9)
   all_goals(try(conv=>whnf))<;>(subst_vars;try first|(apply Tk.mk;kernel_rfl)|exact⟨ah rfl⟩|exact⟨rfl⟩|exact⟨trivial⟩|rfl|contradiction|(apply Ob.mk;(try simp only[ag,ak,aa.ae])<;>(try dsimp only)<;>omega))
   all_goals try first|trivial|exact⟨hB⟩
  have p0:decide ((j:Int)<(m:Int))=false:=decide_eq_false (by omega)
  have aHh:j=m:=by omega
  have a5:((aky L l t f s m).1==(j:Int))=true:=aF8 j (by rw[aw7 (fun i hi=>hno i (by omega)),aHh])
  clear aHh;repeat'((conv=>whnf);first|apply And.intro|exact bA (by subst_vars;assumption)|intro h9)
  all_goals(try(conv=>whnf))<;>(subst_vars;try first|(apply Tk.mk;kernel_rfl)|exact⟨ah rfl⟩|exact⟨rfl⟩|exact⟨trivial⟩|rfl|contradiction|(apply Ob.mk;(try simp only[ag,ak,aa.ae])<;>(try dsimp only)<;>omega))
  all_goals try first|trivial
 ·have d1:decide ((L.length:Int)>8)=true:=decide_eq_true (by omega)
  by_cases g2:L.length<=20
  ·have d2:decide ((L.length:Int)<=20)=true:=decide_eq_true (by omega)
   repeat'((conv=>whnf);first|apply And.intro|exact bA (by subst_vars;assumption)|intro h9)
   all_goals(try(conv=>whnf))<;>(subst_vars;try first|(apply Tk.mk;kernel_rfl)|exact⟨ah rfl⟩|exact⟨rfl⟩|exact⟨trivial⟩|rfl|contradiction|(apply Ob.mk;(try simp only[ag,ak,aa.ae])<;>(try dsimp only)<;>omega))
  have d2:decide ((L.length:Int)<=20)=false:=decide_eq_false (by omega)
  by_cases g3:L.length>30
  ·have d3:decide ((L.length:Int)>30)=true:=decide_eq_true (by omega)
   repeat'((conv=>whnf);first|apply And.intro|exact bA (by subst_vars;assumption)|intro h9)
   all_goals(try(conv=>whnf))<;>(subst_vars;try first|(apply Tk.mk;kernel_rfl)|exact⟨ah rfl⟩|exact⟨rfl⟩|exact⟨trivial⟩|rfl|contradiction|(apply Ob.mk;(try simp only[ag,ak,aa.ae])<;>(try dsimp only)<;>omega))
  have d3:decide ((L.length:Int)>30)=false:=decide_eq_false (by omega)
  have hL:L.length<=1000000:=by omega
  have h0:(bf L l t f==0)=false:=beq_eq_false_iff_ne.2 fun e=>by
   have:=(gg e).1.Kg;omega
  by_cases c1:m>12
  ·have d4:decide (m>12)=true:=decide_eq_true c1;by_cases c2:m<=200
   ·have d5:decide (m<=200)=true:=decide_eq_true c2;repeat'((conv=>whnf);first|apply And.intro|exact bA (by subst_vars;assumption)|intro h9)
    all_goals(try(conv=>whnf))<;>(subst_vars;try first|(apply Tk.mk;kernel_rfl)|exact⟨ah rfl⟩|exact⟨rfl⟩|exact⟨trivial⟩|rfl|contradiction|(apply Ob.mk;(try simp only[ag,ak,aa.ae])<;>(try dsimp only)<;>omega))
   have d5:decide (m<=200)=false:=decide_eq_false c2;have hn:¬bf L l t f=0:=fun e=>by rw[e]at h0;cases h0
   have a1:(bf L l t f !=0)=true:=by unfold bne;rw[h0];rfl
   have he:=aEE (s:=s) (m:=m) hn;have a3:((aky L l t f s m).1==0)=true:=by rw[he];rfl
   have a4:((aky L l t f s m).2==bf L l t f)=true:=by rw[he];exact beq_self_eq_true _
   clear he;repeat'((conv=>whnf);first|apply And.intro|exact bA (by subst_vars;assumption)|intro h9)
   all_goals(try(conv=>whnf))<;>(subst_vars;try first|(apply Tk.mk;kernel_rfl)|exact⟨ah rfl⟩|exact⟨rfl⟩|exact⟨trivial⟩|rfl|contradiction|(apply Ob.mk;(try simp only[ag,ak,aa.ae])<;>(try dsimp only)<;>omega))
   all_goals try first|trivial|exact⟨hL⟩
  have d4:decide (m>12)=false:=decide_eq_false c1;have hn:¬bf L l t f=0:=fun e=>by rw[e]at h0;cases h0
  have a1:(bf L l t f !=0)=true:=by unfold bne;rw[h0];rfl
  have he:=aEE (s:=s) (m:=m) hn;have a3:((aky L l t f s m).1==0)=true:=by rw[he];rfl
  have a4:((aky L l t f s m).2==bf L l t f)=true:=by rw[he];exact beq_self_eq_true _
  clear he;repeat'((conv=>whnf);first|apply And.intro|exact bA (by subst_vars;assumption)|intro h9)
  all_goals(try(conv=>whnf))<;>(subst_vars;try first|(apply Tk.mk;kernel_rfl)|exact⟨ah rfl⟩|exact⟨rfl⟩|exact⟨trivial⟩|rfl|contradiction|(apply Ob.mk;(try simp only[ag,ak,aa.ae])<;>(try dsimp only)<;>omega))
  all_goals try first|trivial|exact⟨hL⟩)
end Go.Proofs.Ytccnimhgjjnmoaa
end
