/-
  Texts of the claims: Yke1y. No condition: lemmas and contracts.
-/
import Derived.Test.YtccnimhgjjnmoaaSya1z
import Derived.Test.YtccnimhgjjnmoaaSya2z
import Derived.Test.YtccnimhgjjnmoaaSya3z
import Derived.Test.YtccnimhgjjnmoaaSya4z
import Derived.Test.YtccnimhgjjnmoaaSya5z
import Derived.Test.YtccnimhgjjnmoaaPla6z
import Derived.Test.YtccnimhgjjnmoaaYka7z
import Derived.Test.YtccnimhgjjnmoaaYka8z
import Derived.Test.YtccnimhgjjnmoaaYka9z
import Derived.Test.YtccnimhgjjnmoaaYka10z
import Derived.Test.YtccnimhgjjnmoaaYka11z
import Derived.Test.YtccnimhgjjnmoaaYka12z
import Derived.Test.YtccnimhgjjnmoaaYka13z
import Derived.Test.YtccnimhgjjnmoaaYka14z
import Derived.Test.YtccnimhgjjnmoaaYka15z
import Derived.Test.YtccnimhgjjnmoaaYka16z
import Derived.Test.YtccnimhgjjnmoaaYka17z
import Derived.Test.YtccnimhgjjnmoaaYka18z
import Derived.Test.YtccnimhgjjnmoaaPlb1z
import Derived.Test.YtccnimhgjjnmoaaPlc1z
import Derived.Test.YtccnimhgjjnmoaaPlg1z
import Derived.Test.YtccnimhgjjnmoaaYkl1z
import Derived.Test.YtccnimhgjjnmoaaPlb1y
set_option linter.all false
set_option maxRecDepth 100000
set_option maxHeartbeats 40000000
section
namespace Go.Proofs.Ytccnimhgjjnmoaa
open Go Go.Sy Go.dg
variable {Γ:bn}
def aKi (D:List Bk->List Bk->List aa) (F:List Bk->List Bk->Tm):au:=.fn fun args rg=>match args with
 |[.a x0,.a x1]=>(match ac1 67 kK rg x0,ac1 67 kK rg x1 with|some (q0,L0),some (q1,L1)=>some (q0++(q1++(D L0 L1)),F L0 L1)|_,_=>none)
 |_=>none
theorem aJ1 {f:FuncId} {b:Body} {E:Env} {d:Nat} (hP:aL Try.prog Γ E) (hb:bQ Try.prog f b) {D:List Bk->List Bk->List aa} {F:List Bk->List Bk->Tm} (hp:∀ (L0:List Bk) (L1:List Bk),(F L0 L1).plain=true)
 (H:∀ (L0:List Bk) (L1:List Bk),bW (D L0 L1)->cQ E d b [.a (.sl 0 [] 0 L0.length),.a (.sl 1 [] 0 L1.length)] [.arr 67 kK L0 false false,.arr 67 kK L1 false false] (fun x _=>iL x (F L0 L1))):au.Ok Try.prog Γ f (aKi D F):=au.aBp (d:=d) hP hb (by
 intro args rg q t hF hq;split at hF;next x0 x1=>
  split at hF;next q0 L0 q1 L1 hx0 cO=>
   obtain⟨rfl,rfl⟩:=Prod.mk.inj (Option.some.inj hF);clear hF;rw[aH,aH]at hq;obtain⟨aIh,gk,hD⟩:=hq;obtain⟨e0,Vn⟩:=bP (by simp[kK]) hx0 aIh
   obtain⟨e1,iO⟩:=bP (by simp[kK]) cO gk
   obtain⟨p0,r0⟩:=Vn [e0,e1] 0 2 rfl (by omega)
   obtain⟨p1,r1⟩:=iO [e0,e1] 1 2 rfl (by omega)
   refine⟨hp _ _,[e0,e1],[.a (.sl 0 [] 0 L0.length),.a (.sl 1 [] 0 L1.length)],[.arr 67 kK L0 false false,.arr 67 kK L1 false false],⟨⟨p0,p1,trivial⟩,fun r g hg=>?_⟩,H _ _ hD⟩
   match r,hg with
   |0,hg=>obtain rfl:=Option.some.inj hg;exact r0
   |1,hg=>obtain rfl:=Option.some.inj hg;exact r1
  next=>cases hF
 next=>cases hF)
end Go.Proofs.Ytccnimhgjjnmoaa
end
section
namespace Go.Proofs.Ytccnimhgjjnmoaa
open Go Go.Sy Go.dg
variable {Γ:bn}
attribute [local irreducible] ck
abbrev aI0 (L:List Bk) (i:Int):Bk:=@Ar.get ⟨67,kK,L⟩ (0+Int.toNat i)
theorem aJz {L:List Bk} {i:Nat} (h:i<L.length):aI0 L i=L[i]:=amo (tg:=kK) h
theorem aJH {L M:List Bk} (hl:L.length=M.length) (h:∀ j,j<L.length->aI0 L j=aI0 M j):L=M:=by
 refine List.ext_getElem hl fun i h1 h2=>?_
 rw[<-aJz h1,<-aJz h2,h i h1]
def aJm:au:=aKi (fun L _=>[(aa.of (L.length<=1000000))]) (fun L M=>bl (decide (L=M)))
theorem aJt:au.Ok Try.prog Γ 43 aJm:=aJ1 (d:=0) (aP aR.nil bq.nil false 0) (aj Try.func43 rfl rfl) (fun _ _=>rfl) (by
 intro L M ⟨hL,_⟩;simp only[aa.ae]at hL;cases h:((L.length:Int)!=(M.length:Int))
 ·have hl:=atK h;repeat'((conv=>whnf);first|apply And.intro|exact bA (by subst_vars;assumption)|intro h9)
  all_goals(try(conv=>whnf))<;>(subst_vars;try first|(apply Tk.mk;kernel_rfl)|exact⟨ah rfl⟩|exact⟨rfl⟩|exact⟨trivial⟩|rfl|contradiction|(apply Ob.mk;(try simp only[ag,ak,aa.ae])<;>(try dsimp only)<;>omega))
  refine⟨Nat,fun i=>i<=L.length/\∀ j,j<i->aI0 L j=aI0 M j,fun i=>⟨aI 26 [0,1,5] [.a (.sl 0 [] 0 L.length),.a (.sl 1 [] 0 M.length),.a (vI i)],[],[.arr 67 kK L false false,.arr 67 kK M false false]⟩,fun i=>L.length-i,0,[0,1],⟨Nat.zero_le _,fun j h=>absurd h (Nat.not_lt_zero j)⟩,?_,?_⟩
  ·repeat'((conv=>whnf)<;>first|apply And.intro|intro _|rfl|trivial|exact ah rfl|exact aS ‹_› rfl|exact aT ‹_› rfl|((repeat' first|rfl|constructor);done))
  rintro i ⟨hi,hj⟩;by_cases hi1:i<L.length
  ·have p0:decide ((i:Int)<(L.length:Int))=true:=decide_eq_true (by omega)
   by_cases hw:aI0 L i=aI0 M i
   ·have e1:(!((aI0 L i).1==(aI0 M i).1&&((aI0 L i).2==(aI0 M i).2&&true)))=false:=by rw[hw];simp
    repeat'((conv=>whnf);first|apply And.intro|exact bA (by subst_vars;assumption)|intro h9)
    all_goals(try(conv=>whnf))<;>(subst_vars;try first|(apply Tk.mk;kernel_rfl)|exact⟨ah rfl⟩|exact⟨rfl⟩|exact⟨trivial⟩|rfl|contradiction|(apply Ob.mk;(try simp only[ag,ak,aa.ae])<;>(try dsimp only)<;>omega))
    all_goals try first|exact⟨show 0+Int.toNat (i:Int)<L.length by omega⟩|exact⟨show 0+Int.toNat (i:Int)<M.length by omega⟩
    all_goals
     refine⟨i+1,[0,1],⟨hi1,fun j hj'=>by rcases Nat.lt_succ_iff_lt_or_eq.1 hj' with h|rfl;exact hj j h;exact hw⟩,?_,by show L.length-(i+1)<L.length-i;omega⟩
     repeat'((conv=>whnf)<;>first|apply And.intro|intro _|rfl|trivial|exact ah rfl|exact aS ‹_› rfl|exact aT ‹_› rfl|((repeat' first|rfl|constructor);done))
   have e1:(!((aI0 L i).1==(aI0 M i).1&&((aI0 L i).2==(aI0 M i).2&&true)))=true:=by rw[Bool.not_eq_true',Bool.and_true,Bool.and_eq_false_iff];by_cases e:(aI0 L i).1=(aI0 M i).1;right;exact beq_eq_false_iff_ne.2 (fun e2=>hw (Prod.ext e e2));left;exact beq_eq_false_iff_ne.2 e
   rw[decide_eq_false (show ¬L=M from fun e=>hw (by rw[e]))]
   repeat'((conv=>whnf);first|apply And.intro|exact bA (by subst_vars;assumption)|intro h9)
   all_goals(try(conv=>whnf))<;>(subst_vars;try first|(apply Tk.mk;kernel_rfl)|exact⟨ah rfl⟩|exact⟨rfl⟩|exact⟨trivial⟩|rfl|contradiction|(apply Ob.mk;(try simp only[ag,ak,aa.ae])<;>(try dsimp only)<;>omega))
   all_goals first|exact⟨show 0+Int.toNat (i:Int)<L.length by omega⟩|exact⟨show 0+Int.toNat (i:Int)<M.length by omega⟩
  have p0:decide ((i:Int)<(L.length:Int))=false:=decide_eq_false (by omega)
  rw[decide_eq_true (aJH hl (fun j hj'=>hj j (by omega)))]
  repeat'((conv=>whnf);first|apply And.intro|exact bA (by subst_vars;assumption)|intro h9)
  all_goals(try(conv=>whnf))<;>(subst_vars;try first|(apply Tk.mk;kernel_rfl)|exact⟨ah rfl⟩|exact⟨rfl⟩|exact⟨trivial⟩|rfl|contradiction|(apply Ob.mk;(try simp only[ag,ak,aa.ae])<;>(try dsimp only)<;>omega))
 have hl:=ari h;rw[decide_eq_false (show ¬L=M from fun e=>hl (by rw[e]))]
 repeat'((conv=>whnf);first|apply And.intro|exact bA (by subst_vars;assumption)|intro h9)
 all_goals(try(conv=>whnf))<;>(subst_vars;try first|(apply Tk.mk;kernel_rfl)|exact⟨ah rfl⟩|exact⟨rfl⟩|exact⟨trivial⟩|rfl|contradiction|(apply Ob.mk;(try simp only[ag,ak,aa.ae])<;>(try dsimp only)<;>omega)))
end Go.Proofs.Ytccnimhgjjnmoaa
end
section
namespace Go.Proofs.Ytccnimhgjjnmoaa
open Go Go.Sy Go.dg
variable {Γ:bn}
theorem aEd {L:List Bk} {f:Int} {F:List Int} (h:Lk (WA f L) F):F.length<=1000000:=by
 rw[h.len];unfold WA;rw[x7];exact Nat.le_trans (Nat.pow_le_pow_right (by omega) (show _<=10 by unfold pA sub;rw[List.length_take];have h9:gv L.length<=10:=(anC L.length).2.1;omega)) (by decide)
attribute [local irreducible] alg bf ck gf aku eg wN am1 akK akT e7 cw
end Go.Proofs.Ytccnimhgjjnmoaa
end
section
namespace Go.Proofs.Ytccnimhgjjnmoaa
open Go Go.Sy Go.dg
variable {Γ:bn}
noncomputable def aKq:List (Nat×au):=[(20,Df),(21,aIb),(22,ap3),(39,asQ),(43,aJm)]
theorem aJX:aR Try.prog Γ aKq:=(((((aR.nil.cons (aj Try.func43 rfl rfl).fn aJt).cons (aj Try.func39 rfl rfl).fn asR).cons (aj Try.func22 rfl rfl).fn aoY).cons (aj Try.func21 rfl rfl).fn sW).cons (aj Try.func20 rfl rfl).fn EJ)
theorem aJT {L:List Bk} (hB:gb L) {u:Nat} {i:Nat} (h:i<(eg L u).length):1<=ca (eg L u) i:=by
 rw[alf h];obtain⟨b,h1,h2⟩:=aI9 (List.getElem_mem h);have:=hB.len h1;omega
attribute [local irreducible] alg bf ck gf aku eg akT e7 cw
def aJr:au:=anQ (fun _ _ _ _=>[]) (fun _ _ _ _=>bl true)
theorem aJa:au.Ok Try.prog Γ 8 aJr:=alq (d:=0) (aP aJX bq.nil false 0) (aj Try.func8 rfl rfl) (fun _ _ _ _=>rfl) (by
 intro L l t f _;have z0:((0:Int)==0)=true:=rfl;have z1:((0:Int)!=0)=false:=rfl;have z2:((5:Int)!=0)=true:=rfl;have z3:((5:Int)==5)=true:=rfl;have z4:decide ((0:Int)<0)=false:=rfl;have z5:decide (L=L)=true:=decide_eq_true rfl;have hold:List.take L.length (List.drop 0 L)=L:=by rw[List.drop_zero,List.take_length]
 cases hs:alg L
 ·have w0:(!alg L)=true:=by rw[hs];rfl
  repeat'((conv=>whnf);first|apply And.intro|exact bA (by subst_vars;assumption)|intro h9)
  all_goals(try(conv=>whnf))<;>(subst_vars;try first|(apply Tk.mk;kernel_rfl)|exact⟨ah rfl⟩|exact⟨rfl⟩|exact⟨trivial⟩|rfl|contradiction|(apply Ob.mk;(try simp only[ag,ak,aa.ae])<;>(try dsimp only)<;>omega))
 have hL:=ayO hs;have w0:(!alg L)=false:=by rw[hs];rfl
 cases h0:bf L l t f==0
 ·have a1:(bf L l t f !=0)=true:=by unfold bne;rw[h0];rfl
  have a2:(bf L l t f==bf L l t f)=true:=beq_self_eq_true _;repeat'((conv=>whnf);first|apply And.intro|exact bA (by subst_vars;assumption)|intro h9)
  all_goals(try(conv=>whnf))<;>(subst_vars;try first|(apply Tk.mk;kernel_rfl)|exact⟨ah rfl⟩|exact⟨rfl⟩|exact⟨trivial⟩|rfl|contradiction|(apply Ob.mk;(try simp only[ag,ak,aa.ae])<;>(try dsimp only)<;>omega))
  all_goals try first|exact⟨hL⟩|exact⟨show 0+L.length<=L.length by omega⟩|exact⟨show L.length*2<=1099511627776 by omega⟩
  refine⟨Unit,fun _=>True,fun _=>⟨aI 90 [0,3,5,6,7,8] [.a (.sl 0 [] 0 L.length),.a (.p 1 [] 0 0),.a (.sl 2 [] 0 L.length),.a (.v (.slice none 0 0)),.a (vI (bf L l t f)),.a (vI 0)],[],[.arr 67 kK L false false,.box true [vI l,vI t,vI f],.arr 67 kK L true true]⟩,fun _=>0,(),[0,1,2],trivial,?_,?_⟩
  ·repeat'((conv=>whnf)<;>first|apply And.intro|intro _|rfl|trivial|exact ah rfl|exact aS ‹_› rfl|exact aT ‹_› rfl|((repeat' first|rfl|constructor);done)|exact⟨rfl,rfl,hold⟩|exact hold)
  intro _ _;repeat'((conv=>whnf);first|apply And.intro|exact bA (by subst_vars;assumption)|intro h9)
  all_goals(try(conv=>whnf))<;>(subst_vars;try first|(apply Tk.mk;kernel_rfl)|exact⟨ah rfl⟩|exact⟨rfl⟩|exact⟨trivial⟩|rfl|contradiction|(apply Ob.mk;(try simp only[ag,ak,aa.ae])<;>(try dsimp only)<;>omega))
  all_goals try first|exact⟨hL⟩
  refine⟨Unit,fun _=>True,fun _=>⟨aI 90 [0,3,5,7,9,10,11] [.a (.sl 0 [] 0 L.length),.a (.p 1 [] 0 0),.a (.sl 2 [] 0 L.length),.a (vI (bf L l t f)),.a (.p 3 [] 0 0),.a (vI (bf L l t f)),.a (vI 0)],[],[.arr 67 kK L false false,.box true [vI l,vI t,vI f],.arr 67 kK L true true,.box true [.v (.slice none 0 0),.v (.slice none 0 0),.v (.slice none 0 0)]]⟩,fun _=>0,(),[0,1,2,3],trivial,?_,?_⟩
  ·repeat'((conv=>whnf)<;>first|apply And.intro|intro _|rfl|trivial|exact ah rfl|exact aS ‹_› rfl|exact aT ‹_› rfl|((repeat' first|rfl|constructor);done))
  intro _ _;repeat'((conv=>whnf);first|apply And.intro|exact bA (by subst_vars;assumption)|intro h9)
  all_goals(try(conv=>whnf))<;>(subst_vars;try first|(apply Tk.mk;kernel_rfl)|exact⟨ah rfl⟩|exact⟨rfl⟩|exact⟨trivial⟩|rfl|contradiction|(apply Ob.mk;(try simp only[ag,ak,aa.ae])<;>(try dsimp only)<;>omega))
  all_goals try first|exact⟨hL⟩
  refine⟨Unit,fun _=>True,fun _=>⟨aI 90 [0,5,7,10,12,13,14] [.a (.sl 0 [] 0 L.length),.a (.sl 2 [] 0 L.length),.a (vI (bf L l t f)),.a (vI (bf L l t f)),.a (.v (.slice none 0 0)),.a (vI (bf L l t f)),.a (vI 0)],[],[.arr 67 kK L false false,.box true [vI l,vI t,vI f],.arr 67 kK L true true]⟩,fun _=>0,(),[0,1,2],trivial,?_,?_⟩
  ·repeat'((conv=>whnf)<;>first|apply And.intro|intro _|rfl|trivial|exact ah rfl|exact aS ‹_› rfl|exact aT ‹_› rfl|((repeat' first|rfl|constructor);done))
  intro _ _;repeat'((conv=>whnf);first|apply And.intro|exact bA (by subst_vars;assumption)|intro h9)
  all_goals(try(conv=>whnf))<;>(subst_vars;try first|(apply Tk.mk;kernel_rfl)|exact⟨ah rfl⟩|exact⟨rfl⟩|exact⟨trivial⟩|rfl|contradiction|(apply Ob.mk;(try simp only[ag,ak,aa.ae])<;>(try dsimp only)<;>omega))
  all_goals try first|exact⟨hL⟩
 have hB:=(gg (eq_of_beq h0)).1;have hn:=hB.Kg;cases hg:((gN l t f L:Int)==0)
 ·have amB:(eg L (aku l t f L)).length<=1000:=by rw[ew];have:=ajs L.length (aku l t f L);omega
  repeat'((conv=>whnf);first|apply And.intro|exact bA (by subst_vars;assumption)|intro h9)
  all_goals(try(conv=>whnf))<;>(subst_vars;try first|(apply Tk.mk;kernel_rfl)|exact⟨ah rfl⟩|exact⟨rfl⟩|exact⟨trivial⟩|rfl|contradiction|(apply Ob.mk;(try simp only[ag,ak,aa.ae])<;>(try dsimp only)<;>omega))
  all_goals try first|exact⟨hL⟩|exact⟨show 0+L.length<=L.length by omega⟩|exact⟨show L.length*2<=1099511627776 by omega⟩
  refine⟨Nat×List Int,fun x=>x.1<=x.2.length/\x.2.length<=1000,fun|(i,A)=>⟨aI 90 [0,3,5,6,7,8] [.a (.sl 0 [] 0 L.length),.a (.p 1 [] 0 0),.a (.sl 2 [] 0 L.length),.a (.sl 3 [] 0 A.length),.a (vI 0),.a (vI i)],[],[.arr 67 kK L false false,.box true [vI l,vI t,vI f],.arr 67 kK L true true,.arr 3 kI A true true]⟩,fun x=>x.2.length-x.1,(0,(eg L (aku l t f L))),[0,1,2,3],⟨Nat.zero_le _,amB⟩,?_,?_⟩
  ·repeat'((conv=>whnf)<;>first|apply And.intro|intro _|rfl|trivial|exact ah rfl|exact aS ‹_› rfl|exact aT ‹_› rfl|((repeat' first|rfl|constructor);done)|exact⟨rfl,rfl,hold⟩|exact hold)
  rintro⟨i,A⟩ ⟨hi,hA⟩;dsimp only at hi hA;by_cases hi1:i<A.length
  ·have p0:decide ((i:Int)<(A.length:Int))=true:=decide_eq_true (by omega)
   have dZ:(A.set (0+Int.toNat (i:Int)) (-1)).length=A.length:=List.length_set ..;repeat'((conv=>whnf);first|apply And.intro|exact bA (by subst_vars;assumption)|intro h9)
   all_goals(try(conv=>whnf))<;>(subst_vars;try first|(apply Tk.mk;kernel_rfl)|exact⟨ah rfl⟩|exact⟨rfl⟩|exact⟨trivial⟩|rfl|contradiction|(apply Ob.mk;(try simp only[ag,ak,aa.ae])<;>(try dsimp only)<;>omega))
   all_goals try first|exact⟨show 0+Int.toNat (i:Int)<A.length by omega⟩
   all_goals
    refine⟨(i+1,A.set (0+Int.toNat (i:Int)) (-1)),[0,1,2,3],⟨by dsimp only;rw[dZ];exact hi1,by dsimp only;rw[dZ];exact hA⟩,?_,by dsimp only;rw[dZ];omega⟩
    repeat'((conv=>whnf)<;>first|apply And.intro|intro _|rfl|trivial|exact ah rfl|exact aS ‹_› rfl|exact aT ‹_› rfl|((repeat' first|rfl|constructor);done)|exact dZ|exact dZ.symm)
  have p0:decide ((i:Int)<(A.length:Int))=false:=decide_eq_false (by omega)
  repeat'((conv=>whnf);first|apply And.intro|exact bA (by subst_vars;assumption)|intro h9)
  all_goals(try(conv=>whnf))<;>(subst_vars;try first|(apply Tk.mk;kernel_rfl)|exact⟨ah rfl⟩|exact⟨rfl⟩|exact⟨trivial⟩|rfl|contradiction|(apply Ob.mk;(try simp only[ag,ak,aa.ae])<;>(try dsimp only)<;>omega))
  all_goals try first|exact⟨hL⟩
  refine⟨Unit,fun _=>True,fun _=>⟨aI 90 [0,3,5,7,9,10,11] [.a (.sl 0 [] 0 L.length),.a (.p 1 [] 0 0),.a (.sl 2 [] 0 L.length),.a (vI 0),.a (.p 3 [] 0 0),.a (vI 5),.a (vI 0)],[],[.arr 67 kK L false false,.box true [vI l,vI t,vI f],.arr 67 kK L true true,.box true [.v (.slice none 0 0),.v (.slice none 0 0),.v (.slice none 0 0)]]⟩,fun _=>0,(),[0,1,2,4],trivial,?_,?_⟩
  ·repeat'((conv=>whnf)<;>first|apply And.intro|intro _|rfl|trivial|exact ah rfl|exact aS ‹_› rfl|exact aT ‹_› rfl|((repeat' first|rfl|constructor);done))
  intro _ _;clear p0;repeat'((conv=>whnf);first|apply And.intro|exact bA (by subst_vars;assumption)|intro h9)
  all_goals(try(conv=>whnf))<;>(subst_vars;try first|(apply Tk.mk;kernel_rfl)|exact⟨ah rfl⟩|exact⟨rfl⟩|exact⟨trivial⟩|rfl|contradiction|(apply Ob.mk;(try simp only[ag,ak,aa.ae])<;>(try dsimp only)<;>omega))
  all_goals try first|exact⟨hL⟩
  refine⟨Nat,fun v=>v<=(eg L (aku l t f L)).length,fun v=>⟨aI 90 [0,5,7,10,12,13,14] [.a (.sl 0 [] 0 L.length),.a (.sl 2 [] 0 L.length),.a (vI 0),.a (vI 5),.a (.sl 3 [] 0 (eg L (aku l t f L)).length),.a (vI 0),.a (vI v)],[],[.arr 67 kK L false false,.box true [vI l,vI t,vI f],.arr 67 kK L true true,.arr 3 kI (eg L (aku l t f L)) true true]⟩,fun v=>(eg L (aku l t f L)).length-v,0,[0,1,2,4],Nat.zero_le _,?_,?_⟩
  ·repeat'((conv=>whnf)<;>first|apply And.intro|intro _|rfl|trivial|exact ah rfl|exact aS ‹_› rfl|exact aT ‹_› rfl|((repeat' first|rfl|constructor);done))
  intro v hv;by_cases Vp:v<(eg L (aku l t f L)).length
  ·have p0:decide ((v:Int)<((eg L (aku l t f L)).length:Int))=true:=decide_eq_true (by omega)
   have p1:decide (ca (eg L (aku l t f L)) v<1)=false:=decide_eq_false (by have:=aJT hB Vp;omega)
   repeat'((conv=>whnf);first|apply And.intro|exact bA (by subst_vars;assumption)|intro h9)
   all_goals(try(conv=>whnf))<;>(subst_vars;try first|(apply Tk.mk;kernel_rfl)|exact⟨ah rfl⟩|exact⟨rfl⟩|exact⟨trivial⟩|rfl|contradiction|(apply Ob.mk;(try simp only[ag,ak,aa.ae])<;>(try dsimp only)<;>omega))
   all_goals try first|exact⟨show 0+Int.toNat (v:Int)<(eg L (aku l t f L)).length by omega⟩
   refine⟨v+1,[0,1,2,3],Vp,?_,by show(eg L (aku l t f L)).length-(v+1)<(eg L (aku l t f L)).length-v;omega⟩
   repeat'((conv=>whnf)<;>first|apply And.intro|intro _|rfl|trivial|exact ah rfl|exact aS ‹_› rfl|exact aT ‹_› rfl|((repeat' first|rfl|constructor);done))
  have p0:decide ((v:Int)<((eg L (aku l t f L)).length:Int))=false:=decide_eq_false (by omega)
  repeat'((conv=>whnf);first|apply And.intro|exact bA (by subst_vars;assumption)|intro h9)
  all_goals(try(conv=>whnf))<;>(subst_vars;try first|(apply Tk.mk;kernel_rfl)|exact⟨ah rfl⟩|exact⟨rfl⟩|exact⟨trivial⟩|rfl|contradiction|(apply Ob.mk;(try simp only[ag,ak,aa.ae])<;>(try dsimp only)<;>omega))
  all_goals try first|exact⟨hL⟩
 ·repeat'((conv=>whnf);first|apply And.intro|exact bA (by subst_vars;assumption)|intro h9)
  all_goals(try(conv=>whnf))<;>(subst_vars;try first|(apply Tk.mk;kernel_rfl)|exact⟨ah rfl⟩|exact⟨rfl⟩|exact⟨trivial⟩|rfl|contradiction|(apply Ob.mk;(try simp only[ag,ak,aa.ae])<;>(try dsimp only)<;>omega))
  all_goals try first|exact⟨hL⟩|exact⟨show 0+L.length<=L.length by omega⟩|exact⟨show L.length*2<=1099511627776 by omega⟩
  refine⟨Unit,fun _=>True,fun _=>⟨aI 90 [0,3,5,6,7,8] [.a (.sl 0 [] 0 L.length),.a (.p 1 [] 0 0),.a (.sl 2 [] 0 L.length),.a (.v (.slice none 0 0)),.a (vI 5),.a (vI 0)],[],[.arr 67 kK L false false,.box true [vI l,vI t,vI f],.arr 67 kK L true true]⟩,fun _=>0,(),[0,1,2],trivial,?_,?_⟩
  ·repeat'((conv=>whnf)<;>first|apply And.intro|intro _|rfl|trivial|exact ah rfl|exact aS ‹_› rfl|exact aT ‹_› rfl|((repeat' first|rfl|constructor);done)|exact⟨rfl,rfl,hold⟩|exact hold)
  intro _ _;repeat'((conv=>whnf);first|apply And.intro|exact bA (by subst_vars;assumption)|intro h9)
  all_goals(try(conv=>whnf))<;>(subst_vars;try first|(apply Tk.mk;kernel_rfl)|exact⟨ah rfl⟩|exact⟨rfl⟩|exact⟨trivial⟩|rfl|contradiction|(apply Ob.mk;(try simp only[ag,ak,aa.ae])<;>(try dsimp only)<;>omega))
  all_goals try first|exact⟨hL⟩
  rename_i F1 R1 apU aAg;have aKk:=aEd apU;refine⟨Nat×List Int,fun x=>x.1<=x.2.length/\x.2.length<=1000000,fun|(i,A)=>⟨aI 90 [0,3,5,7,9,10,11] [.a (.sl 0 [] 0 L.length),.a (.p 1 [] 0 0),.a (.sl 2 [] 0 L.length),.a (vI 5),.a (.p 4 [] 0 0),.a (vI 0),.a (vI i)],[],[.arr 67 kK L false false,.box true [vI l,vI t,vI f],.arr 67 kK L true true,.arr 3 kI A true true,.box true [.sl 3 [] 0 A.length,.any,.any]]⟩,fun x=>x.2.length-x.1,(0,F1),[0,1,2,3,6],⟨Nat.zero_le _,aKk⟩,?_,?_⟩
  ·repeat'((conv=>whnf)<;>first|apply And.intro|intro _|rfl|trivial|exact ah rfl|exact aS ‹_› rfl|exact aT ‹_› rfl|((repeat' first|rfl|constructor);done))
  clear aKk apU aAg;rintro⟨i,A⟩ ⟨hi,hA⟩;dsimp only at hi hA;by_cases hi1:i<A.length
  ·have p0:decide ((i:Int)<(A.length:Int))=true:=decide_eq_true (by omega)
   have dZ:(A.set (0+Int.toNat (i:Int)) (-1)).length=A.length:=List.length_set ..;repeat'((conv=>whnf);first|apply And.intro|exact bA (by subst_vars;assumption)|intro h9)
   all_goals(try(conv=>whnf))<;>(subst_vars;try first|(apply Tk.mk;kernel_rfl)|exact⟨ah rfl⟩|exact⟨rfl⟩|exact⟨trivial⟩|rfl|contradiction|(apply Ob.mk;(try simp only[ag,ak,aa.ae])<;>(try dsimp only)<;>omega))
   all_goals try first|exact⟨show 0+Int.toNat (i:Int)<A.length by omega⟩
   all_goals
    refine⟨(i+1,A.set (0+Int.toNat (i:Int)) (-1)),[0,1,2,3,4],⟨by dsimp only;rw[dZ];exact hi1,by dsimp only;rw[dZ];exact hA⟩,?_,by dsimp only;rw[dZ];omega⟩
    repeat'((conv=>whnf)<;>first|apply And.intro|intro _|rfl|trivial|exact ah rfl|exact aS ‹_› rfl|exact aT ‹_› rfl|((repeat' first|rfl|constructor);done)|exact dZ|exact dZ.symm)
  have p0:decide ((i:Int)<(A.length:Int))=false:=decide_eq_false (by omega)
  repeat'((conv=>whnf);first|apply And.intro|exact bA (by subst_vars;assumption)|intro h9)
  all_goals(try(conv=>whnf))<;>(subst_vars;try first|(apply Tk.mk;kernel_rfl)|exact⟨ah rfl⟩|exact⟨rfl⟩|exact⟨trivial⟩|rfl|contradiction|(apply Ob.mk;(try simp only[ag,ak,aa.ae])<;>(try dsimp only)<;>omega))
  all_goals try first|exact⟨hL⟩
  refine⟨Unit,fun _=>True,fun _=>⟨aI 90 [0,5,7,10,12,13,14] [.a (.sl 0 [] 0 L.length),.a (.sl 2 [] 0 L.length),.a (vI 5),.a (vI 0),.a (.v (.slice none 0 0)),.a (vI 5),.a (vI 0)],[],[.arr 67 kK L false false,.box true [vI l,vI t,vI f],.arr 67 kK L true true]⟩,fun _=>0,(),[0,1,2],trivial,?_,?_⟩
  ·repeat'((conv=>whnf)<;>first|apply And.intro|intro _|rfl|trivial|exact ah rfl|exact aS ‹_› rfl|exact aT ‹_› rfl|((repeat' first|rfl|constructor);done))
  intro _ _;repeat'((conv=>whnf);first|apply And.intro|exact bA (by subst_vars;assumption)|intro h9)
  all_goals(try(conv=>whnf))<;>(subst_vars;try first|(apply Tk.mk;kernel_rfl)|exact⟨ah rfl⟩|exact⟨rfl⟩|exact⟨trivial⟩|rfl|contradiction|(apply Ob.mk;(try simp only[ag,ak,aa.ae])<;>(try dsimp only)<;>omega))
  all_goals try first|exact⟨hL⟩)
end Go.Proofs.Ytccnimhgjjnmoaa
end
