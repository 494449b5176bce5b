/-
  Texts of the claims: Yka11z. No condition: lemmas and contracts.
-/
import Derived.Test.YtccnimhgjjnmoaaSya1z
import Derived.Test.YtccnimhgjjnmoaaSya2z
import Derived.Test.YtccnimhgjjnmoaaSya3z
import Derived.Test.YtccnimhgjjnmoaaSya4z
import Derived.Test.YtccnimhgjjnmoaaSya5z
import Derived.Test.YtccnimhgjjnmoaaPla6z
import Derived.Test.YtccnimhgjjnmoaaYka7z
import Derived.Test.YtccnimhgjjnmoaaYka8z
import Derived.Test.YtccnimhgjjnmoaaYka9z
import Derived.Test.YtccnimhgjjnmoaaYka10z
set_option linter.all false
set_option maxRecDepth 100000
set_option maxHeartbeats 40000000
section
namespace Go.Proofs.Ytccnimhgjjnmoaa
open Go Go.Sy Go.dg
variable {Γ:bn}
attribute [local irreducible] bJ td Pn
noncomputable def apH (n:Nat):au:=ati (fun T a m b k p c=>[asm T,ar0 k p c,(aa.of (0<=a/\a<m/\m<b/\b<=T.length)),(aa.of (b-a<=(n:Int)))]) (fun _ _ _ _ _ _ _=> .bF [])
theorem Uf.no {T:List (List Int)} (h:Uf T) {i j:Nat} (hij:i<j) (hj:j<T.length):(!decide (Pn (bh T j) (bh T i)<0))=true:=by rw[h.le hij hj];rfl
theorem as1:∀ n,au.Ok Try.prog Γ 120 (apH n):=by
 intro n;induction n with
 |zero=>
  refine aoQ (d:=0) (aP aR.nil bq.nil false 0) (aj Try.func120 rfl rfl) (fun _ _ _ _ _ _ _=>rfl) ?_
  intro T a m b k p c ⟨_,_,h1,h2,_⟩;simp only[aa.ae]at h1 h2;exfalso;omega
 |succ n ih=>
  have aAb:aR Try.prog Γ [(94,ams),(120,apH n)]:=((aR.nil.cons (aj Try.func120 rfl rfl).fn ih).cons (aj Try.func94 rfl rfl).fn amt);refine aoQ (d:=0) (aP aAb bq.nil false 0) (aj Try.func120 rfl rfl) (fun _ _ _ _ _ _ _=>rfl) ?_
  intro T a m b k p c ⟨hT,hv,hab,hn,_⟩;simp only[aa.ae]at hab hn;replace hT:Uf T:=hT;obtain⟨rfl,rfl,rfl⟩:k= .func 94/\p=#[.agg #[]]/\c=#[]:=hv;have Sa:=hT.Kg;obtain⟨a,rfl⟩:∃ k:Nat,a=(k:Int):=⟨a.toNat,by omega⟩
  obtain⟨m,rfl⟩:∃ k:Nat,m=(k:Int):=⟨m.toNat,by omega⟩
  obtain⟨b,rfl⟩:∃ k:Nat,b=(k:Int):=⟨b.toNat,by omega⟩
  by_cases c1:m<=a+1
  ·have e1:((m:Int)-(a:Int)==1)=true:=by rw[beq_iff_eq];omega
   repeat'((conv=>whnf);first|apply And.intro|exact bA (by subst_vars;assumption)|intro h9)
   all_goals(try(conv=>whnf))<;>(subst_vars;try first|(apply Tk.mk;kernel_rfl)|exact⟨ah rfl⟩|exact⟨rfl⟩|exact⟨trivial⟩|rfl|contradiction|(apply Ob.mk;(try simp only[ag,ak,aa.ae])<;>(try dsimp only)<;>omega))
   refine⟨Nat,fun j=>m<=j/\j<=b,fun j=>⟨aI 220 [0,1,2,3,4,10,11] [.a (.sl 0 [] 0 T.length),.a (vI a),.a (vI m),.a (vI b),.a (.v alo),.a (vI m),.a (vI j)],[],[.arr 27 kT T false false]⟩,fun j=>j,b,[0],⟨by omega,Nat.le_refl _⟩,?_,?_⟩
   ·repeat'((conv=>whnf)<;>first|apply And.intro|intro _|rfl|trivial|exact ah rfl|exact aS ‹_› rfl|exact aT ‹_› rfl|((repeat' first|rfl|constructor);done))
   rintro j ⟨Ho,hj2⟩;by_cases hj:m<j
   ·have p0:decide ((m:Int)<(j:Int))=true:=decide_eq_true (by omega)
    have hh:=Sg m j;obtain⟨h,akR⟩:∃ h,h=(m+j) / 2:=⟨_,rfl⟩;have Nq:m<=h:=by omega
    have Nr:h<j:=by omega
    rw[<-akR]at hh;clear akR;have q1:=hT.le (i:=a) (j:=h) (by omega) (by omega)
    rw[<-hh]at q1;have cO:0+Int.toNat (((m:Int)+(j:Int)) / 2^Int.toNat 1)<T.length:=by rw[hh];omega
    have agM:=hT.len (i:=h) (by omega)
    rw[<-hh]at agM;have jJ:=hT.len (i:=a) (by omega)
    have r1:0<=((m:Int)+(j:Int)) / 2^Int.toNat 1/\((m:Int)+(j:Int)) / 2^Int.toNat 1<=1000000:=by rw[hh];omega
    repeat'((conv=>whnf);first|apply And.intro|exact bA (by subst_vars;assumption)|intro h9)
    all_goals(try(conv=>whnf))<;>(subst_vars;try first|(apply Tk.mk;kernel_rfl)|exact⟨ah rfl⟩|exact⟨rfl⟩|exact⟨trivial⟩|rfl|contradiction|(apply Ob.mk;(try simp only[ag,ak,aa.ae])<;>(try dsimp only)<;>omega))
    all_goals try first|exact⟨cO⟩|exact⟨show 0+Int.toNat (a:Int)<T.length by omega⟩|exact⟨agM⟩|exact⟨jJ⟩|exact⟨show(1:Int)<=((64:Nat):Int) by decide⟩
    refine⟨h,[0],⟨Nq,by omega⟩,?_,Nr⟩
    repeat'((conv=>whnf)<;>first|apply And.intro|intro _|rfl|trivial|exact ah rfl|exact aS ‹_› rfl|exact aT ‹_› rfl|((repeat' first|rfl|constructor);done)|exact hh)
   have p0:decide ((m:Int)<(j:Int))=false:=decide_eq_false (by omega)
   repeat'((conv=>whnf);first|apply And.intro|exact bA (by subst_vars;assumption)|intro h9)
   all_goals(try(conv=>whnf))<;>(subst_vars;try first|(apply Tk.mk;kernel_rfl)|exact⟨ah rfl⟩|exact⟨rfl⟩|exact⟨trivial⟩|rfl|contradiction|(apply Ob.mk;(try simp only[ag,ak,aa.ae])<;>(try dsimp only)<;>omega))
   refine⟨Unit,fun _=>True,fun _=>⟨aI 220 [0,1,2,3,4,10,13] [.a (.sl 0 [] 0 T.length),.a (vI a),.a (vI m),.a (vI b),.a (.v alo),.a (vI m),.a (vI a)],[],[.arr 27 kT T false false]⟩,fun _=>1,(),[0],trivial,?_,?_⟩
   ·repeat'((conv=>whnf)<;>first|apply And.intro|intro _|rfl|trivial|exact ah rfl|exact aS ‹_› rfl|exact aT ‹_› rfl|((repeat' first|rfl|constructor);done))
   rintro _ _;have p1:decide ((a:Int)<(m:Int)-1)=false:=decide_eq_false (by omega)
   repeat'((conv=>whnf);first|apply And.intro|exact bA (by subst_vars;assumption)|intro h9)
   all_goals(try(conv=>whnf))<;>(subst_vars;try first|(apply Tk.mk;kernel_rfl)|exact⟨ah rfl⟩|exact⟨rfl⟩|exact⟨trivial⟩|rfl|contradiction|(apply Ob.mk;(try simp only[ag,ak,aa.ae])<;>(try dsimp only)<;>omega))
   all_goals first|trivial
  have e1:((m:Int)-(a:Int)==1)=false:=by rw[beq_eq_false_iff_ne];omega
  by_cases c2:b<=m+1
  ·have e2:((b:Int)-(m:Int)==1)=true:=by rw[beq_iff_eq];omega
   repeat'((conv=>whnf);first|apply And.intro|exact bA (by subst_vars;assumption)|intro h9)
   all_goals(try(conv=>whnf))<;>(subst_vars;try first|(apply Tk.mk;kernel_rfl)|exact⟨ah rfl⟩|exact⟨rfl⟩|exact⟨trivial⟩|rfl|contradiction|(apply Ob.mk;(try simp only[ag,ak,aa.ae])<;>(try dsimp only)<;>omega))
   refine⟨Nat,fun i=>a<=i/\i<=m,fun i=>⟨aI 220 [0,1,2,3,4,14,15] [.a (.sl 0 [] 0 T.length),.a (vI a),.a (vI m),.a (vI b),.a (.v alo),.a (vI i),.a (vI m)],[],[.arr 27 kT T false false]⟩,fun i=>m-i,a,[0],⟨Nat.le_refl _,by omega⟩,?_,?_⟩
   ·repeat'((conv=>whnf)<;>first|apply And.intro|intro _|rfl|trivial|exact ah rfl|exact aS ‹_› rfl|exact aT ‹_› rfl|((repeat' first|rfl|constructor);done))
   rintro i ⟨hi1,hi2⟩;by_cases hi:i<m
   ·have p0:decide ((i:Int)<(m:Int))=true:=decide_eq_true (by omega)
    have hh:=Sg i m;obtain⟨h,akR⟩:∃ h,h=(i+m) / 2:=⟨_,rfl⟩;have Nq:i<=h:=by omega
    have Nr:h<m:=by omega
    rw[<-akR]at hh;clear akR;have q1:=hT.no (i:=h) (j:=m) (by omega) (by omega)
    rw[<-hh]at q1;have cO:0+Int.toNat (((i:Int)+(m:Int)) / 2^Int.toNat 1)<T.length:=by rw[hh];omega
    have agM:=hT.len (i:=h) (by omega)
    rw[<-hh]at agM;have jJ:=hT.len (i:=m) (by omega)
    have r1:0<=((i:Int)+(m:Int)) / 2^Int.toNat 1/\((i:Int)+(m:Int)) / 2^Int.toNat 1<=1000000:=by rw[hh];omega
    have hs:((i:Int)+(m:Int)) / 2^Int.toNat 1+1=((h+1:Nat):Int):=by rw[hh];omega
    repeat'((conv=>whnf);first|apply And.intro|exact bA (by subst_vars;assumption)|intro h9)
    all_goals(try(conv=>whnf))<;>(subst_vars;try first|(apply Tk.mk;kernel_rfl)|exact⟨ah rfl⟩|exact⟨rfl⟩|exact⟨trivial⟩|rfl|contradiction|(apply Ob.mk;(try simp only[ag,ak,aa.ae])<;>(try dsimp only)<;>omega))
    all_goals try first|exact⟨cO⟩|exact⟨show 0+Int.toNat (m:Int)<T.length by omega⟩|exact⟨agM⟩|exact⟨jJ⟩|exact⟨show(1:Int)<=((64:Nat):Int) by decide⟩
    refine⟨h+1,[0],⟨by omega,by omega⟩,?_,by show m-(h+1)<m-i;omega⟩
    repeat'((conv=>whnf)<;>first|apply And.intro|intro _|rfl|trivial|exact ah rfl|exact aS ‹_› rfl|exact aT ‹_› rfl|((repeat' first|rfl|constructor);done)|exact hs)
   have p0:decide ((i:Int)<(m:Int))=false:=decide_eq_false (by omega)
   obtain rfl:m=i:=by omega
   repeat'((conv=>whnf);first|apply And.intro|exact bA (by subst_vars;assumption)|intro h9)
   all_goals(try(conv=>whnf))<;>(subst_vars;try first|(apply Tk.mk;kernel_rfl)|exact⟨ah rfl⟩|exact⟨rfl⟩|exact⟨trivial⟩|rfl|contradiction|(apply Ob.mk;(try simp only[ag,ak,aa.ae])<;>(try dsimp only)<;>omega))
   refine⟨Unit,fun _=>True,fun _=>⟨aI 220 [0,1,2,3,4,14,17] [.a (.sl 0 [] 0 T.length),.a (vI a),.a (vI m),.a (vI b),.a (.v alo),.a (vI m),.a (vI m)],[],[.arr 27 kT T false false]⟩,fun _=>1,(),[0],trivial,?_,?_⟩
   ·repeat'((conv=>whnf)<;>first|apply And.intro|intro _|rfl|trivial|exact ah rfl|exact aS ‹_› rfl|exact aT ‹_› rfl|((repeat' first|rfl|constructor);done))
   rintro _ _;have p1:decide ((m:Int)>(m:Int))=false:=decide_eq_false (by omega)
   repeat'((conv=>whnf);first|apply And.intro|exact bA (by subst_vars;assumption)|intro h9)
   all_goals(try(conv=>whnf))<;>(subst_vars;try first|(apply Tk.mk;kernel_rfl)|exact⟨ah rfl⟩|exact⟨rfl⟩|exact⟨trivial⟩|rfl|contradiction|(apply Ob.mk;(try simp only[ag,ak,aa.ae])<;>(try dsimp only)<;>omega))
   all_goals first|trivial
  have e2:((b:Int)-(m:Int)==1)=false:=by rw[beq_eq_false_iff_ne];omega
  have y6:=Sg a b;obtain⟨d,hd⟩:∃ d,d=(a+b) / 2:=⟨_,rfl⟩;rw[<-hd]at y6;have Rn:a<d:=by omega
  have Nh:d<b:=by omega
  have aya:2*d<=a+b/\a+b<=2*d+1:=by omega
  clear hd;have r0:0<=((a:Int)+(b:Int)) / 2^Int.toNat 1/\((a:Int)+(b:Int)) / 2^Int.toNat 1<=1000000:=by rw[y6];omega
  have ajV:∀ s r:Nat,s<=r->r<m+d->(∀ x,s<=x->x<r->x<m+d-1-x/\m+d-1-x<b)->True:=fun _ _ _ _ _=>trivial
  clear ajV;by_cases c3:d<m
  ·have e3:decide ((m:Int)>((a:Int)+(b:Int)) / 2^Int.toNat 1)=true:=decide_eq_true (by rw[y6];omega)
   repeat'((conv=>whnf);first|apply And.intro|exact bA (by subst_vars;assumption)|intro h9)
   all_goals(try(conv=>whnf))<;>(subst_vars;try first|(apply Tk.mk;kernel_rfl)|exact⟨ah rfl⟩|exact⟨rfl⟩|exact⟨trivial⟩|rfl|contradiction|(apply Ob.mk;(try simp only[ag,ak,aa.ae])<;>(try dsimp only)<;>omega))
   all_goals try first|exact⟨show(1:Int)<=((64:Nat):Int) by decide⟩
   refine⟨Nat,fun s=>(d+m-b)<=s/\s<=d,fun s=>⟨aI 220 [0,1,2,3,4,18,19,20,21,22] [.a (.sl 0 [] 0 T.length),.a (vI a),.a (vI m),.a (vI b),.a (.v alo),.a (vI (((a:Int)+(b:Int)) / 2^Int.toNat 1)),.a (vI (((a:Int)+(b:Int)) / 2^Int.toNat 1+(m:Int))),.a (vI s),.a (vI (((a:Int)+(b:Int)) / 2^Int.toNat 1)),.a (vI (((a:Int)+(b:Int)) / 2^Int.toNat 1+(m:Int)-1))],[],[.arr 27 kT T false false]⟩,fun s=>d-s,(d+m-b),[0],⟨Nat.le_refl _,by omega⟩,?_,?_⟩
   ·repeat'((conv=>whnf);(first|apply And.intro|intro _))
    all_goals first|rfl|trivial|exact ah rfl|exact aS ‹_› rfl|exact aT ‹_› rfl|((repeat' first|rfl|constructor);done)|(rw[y6];omega)
   rintro s ⟨xX,pT⟩;by_cases hs:s<d
   ·have p0:decide ((s:Int)<((a:Int)+(b:Int)) / 2^Int.toNat 1)=true:=decide_eq_true (by rw[y6];omega)
    have hh:=Sg s d;obtain⟨h,akR⟩:∃ h,h=(s+d) / 2:=⟨_,rfl⟩;have Nq:s<=h:=by omega
    have Nr:h<d:=by omega
    rw[<-akR]at hh;clear akR;rw[<-y6]at hh;have alS:((a:Int)+(b:Int)) / 2^Int.toNat 1+(m:Int)-1-(h:Int)=((d+m-1-h:Nat):Int):=by rw[y6];omega
    have q1:=hT.no (i:=h) (j:=d+m-1-h) (by omega) (by omega)
    rw[<-alS,<-hh]at q1;have agM:=hT.len (i:=h) (by omega)
    rw[<-hh]at agM;have jJ:=hT.len (i:=d+m-1-h) (by omega)
    rw[<-alS,<-hh]at jJ;rw[<-hh]at alS;have cO:0+Int.toNat (((s:Int)+((a:Int)+(b:Int)) / 2^Int.toNat 1) / 2^Int.toNat 1)<T.length:=by rw[hh];omega
    have cq:0+Int.toNat (((a:Int)+(b:Int)) / 2^Int.toNat 1+(m:Int)-1-((s:Int)+((a:Int)+(b:Int)) / 2^Int.toNat 1) / 2^Int.toNat 1)<T.length:=by rw[alS];omega
    have r1:0<=((s:Int)+((a:Int)+(b:Int)) / 2^Int.toNat 1) / 2^Int.toNat 1/\((s:Int)+((a:Int)+(b:Int)) / 2^Int.toNat 1) / 2^Int.toNat 1<=1000000:=by rw[hh];omega
    have aj5:((s:Int)+((a:Int)+(b:Int)) / 2^Int.toNat 1) / 2^Int.toNat 1+1=((h+1:Nat):Int):=by rw[hh];omega
    repeat'((conv=>whnf);first|apply And.intro|exact bA (by subst_vars;assumption)|intro h9)
    all_goals(try(conv=>whnf))<;>(subst_vars;try first|(apply Tk.mk;kernel_rfl)|exact⟨ah rfl⟩|exact⟨rfl⟩|exact⟨trivial⟩|rfl|contradiction|(apply Ob.mk;(try simp only[ag,ak,aa.ae])<;>(try dsimp only)<;>omega))
    all_goals try first|exact⟨cO⟩|exact⟨cq⟩|exact⟨agM⟩|exact⟨jJ⟩|exact⟨show(1:Int)<=((64:Nat):Int) by decide⟩
    refine⟨h+1,[0],⟨by omega,by omega⟩,?_,by show d-(h+1)<d-s;omega⟩
    repeat'((conv=>whnf)<;>first|apply And.intro|intro _|rfl|trivial|exact ah rfl|exact aS ‹_› rfl|exact aT ‹_› rfl|((repeat' first|rfl|constructor);done)|exact aj5)
   have p0:decide ((s:Int)<((a:Int)+(b:Int)) / 2^Int.toNat 1)=false:=decide_eq_false (by rw[y6];omega)
   obtain rfl:s=d:=by omega
   have avZ:(s:Int)=((a:Int)+(b:Int)) / 2^Int.toNat 1:=y6.symm;have f1:decide ((s:Int)<(m:Int))=true:=decide_eq_true (by omega)
   have f2:decide ((m:Int)<((a:Int)+(b:Int)) / 2^Int.toNat 1+(m:Int)-(s:Int))=false:=decide_eq_false (by omega)
   have f3:decide ((a:Int)<(s:Int))=true:=decide_eq_true (by omega)
   have f4:decide ((s:Int)<((a:Int)+(b:Int)) / 2^Int.toNat 1)=false:=decide_eq_false (by omega)
   have f5:decide (((a:Int)+(b:Int)) / 2^Int.toNat 1<((a:Int)+(b:Int)) / 2^Int.toNat 1+(m:Int)-(s:Int))=true:=decide_eq_true (by omega)
   have f6:decide (((a:Int)+(b:Int)) / 2^Int.toNat 1+(m:Int)-(s:Int)<(b:Int))=true:=decide_eq_true (by omega)
   repeat'((conv=>whnf);first|apply And.intro|exact bA (by subst_vars;assumption)|intro h9)
   all_goals(try(conv=>whnf))<;>(subst_vars;try first|(apply Tk.mk;kernel_rfl)|exact⟨ah rfl⟩|exact⟨rfl⟩|exact⟨trivial⟩|rfl|contradiction|(apply Ob.mk;(try simp only[ag,ak,aa.ae])<;>(try dsimp only)<;>omega))
   all_goals first|trivial|exact⟨hT⟩|exact⟨⟨rfl,rfl,rfl⟩⟩|(refine Ob.mk ?_;show 0<=(_:Int)/\(_:Int)<(_:Int)/\(_:Int)<(_:Int)/\(_:Int)<=(T.length:Int);omega)
  have e3:decide ((m:Int)>((a:Int)+(b:Int)) / 2^Int.toNat 1)=false:=decide_eq_false (by rw[y6];omega)
  repeat'((conv=>whnf);first|apply And.intro|exact bA (by subst_vars;assumption)|intro h9)
  all_goals(try(conv=>whnf))<;>(subst_vars;try first|(apply Tk.mk;kernel_rfl)|exact⟨ah rfl⟩|exact⟨rfl⟩|exact⟨trivial⟩|rfl|contradiction|(apply Ob.mk;(try simp only[ag,ak,aa.ae])<;>(try dsimp only)<;>omega))
  all_goals try first|exact⟨show(1:Int)<=((64:Nat):Int) by decide⟩
  refine⟨Nat,fun s=>a<=s/\s<=m,fun s=>⟨aI 220 [0,1,2,3,4,18,19,20,21,22] [.a (.sl 0 [] 0 T.length),.a (vI a),.a (vI m),.a (vI b),.a (.v alo),.a (vI (((a:Int)+(b:Int)) / 2^Int.toNat 1)),.a (vI (((a:Int)+(b:Int)) / 2^Int.toNat 1+(m:Int))),.a (vI s),.a (vI ((m:Int))),.a (vI (((a:Int)+(b:Int)) / 2^Int.toNat 1+(m:Int)-1))],[],[.arr 27 kT T false false]⟩,fun s=>m-s,a,[0],⟨Nat.le_refl _,by omega⟩,?_,?_⟩
  ·repeat'((conv=>whnf);(first|apply And.intro|intro _))
   all_goals first|rfl|trivial|exact ah rfl|exact aS ‹_› rfl|exact aT ‹_› rfl|((repeat' first|rfl|constructor);done)|(rw[y6];omega)
  rintro s ⟨xX,pT⟩;by_cases hs:s<m
  ·have p0:decide ((s:Int)<(m:Int))=true:=decide_eq_true (by omega)
   have hh:=Sg s m;obtain⟨h,akR⟩:∃ h,h=(s+m) / 2:=⟨_,rfl⟩;have Nq:s<=h:=by omega
   have Nr:h<m:=by omega
   rw[<-akR]at hh;clear akR;have alS:((a:Int)+(b:Int)) / 2^Int.toNat 1+(m:Int)-1-(h:Int)=((d+m-1-h:Nat):Int):=by rw[y6];omega
   have q1:=hT.no (i:=h) (j:=d+m-1-h) (by omega) (by omega)
   rw[<-alS,<-hh]at q1;have agM:=hT.len (i:=h) (by omega)
   rw[<-hh]at agM;have jJ:=hT.len (i:=d+m-1-h) (by omega)
   rw[<-alS,<-hh]at jJ;rw[<-hh]at alS;have cO:0+Int.toNat (((s:Int)+(m:Int)) / 2^Int.toNat 1)<T.length:=by rw[hh];omega
   have cq:0+Int.toNat (((a:Int)+(b:Int)) / 2^Int.toNat 1+(m:Int)-1-((s:Int)+(m:Int)) / 2^Int.toNat 1)<T.length:=by rw[alS];omega
   have r1:0<=((s:Int)+(m:Int)) / 2^Int.toNat 1/\((s:Int)+(m:Int)) / 2^Int.toNat 1<=1000000:=by rw[hh];omega
   have aj5:((s:Int)+(m:Int)) / 2^Int.toNat 1+1=((h+1:Nat):Int):=by rw[hh];omega
   repeat'((conv=>whnf);first|apply And.intro|exact bA (by subst_vars;assumption)|intro h9)
   all_goals(try(conv=>whnf))<;>(subst_vars;try first|(apply Tk.mk;kernel_rfl)|exact⟨ah rfl⟩|exact⟨rfl⟩|exact⟨trivial⟩|rfl|contradiction|(apply Ob.mk;(try simp only[ag,ak,aa.ae])<;>(try dsimp only)<;>omega))
   all_goals try first|exact⟨cO⟩|exact⟨cq⟩|exact⟨agM⟩|exact⟨jJ⟩|exact⟨show(1:Int)<=((64:Nat):Int) by decide⟩
   refine⟨h+1,[0],⟨by omega,by omega⟩,?_,by show m-(h+1)<m-s;omega⟩
   repeat'((conv=>whnf)<;>first|apply And.intro|intro _|rfl|trivial|exact ah rfl|exact aS ‹_› rfl|exact aT ‹_› rfl|((repeat' first|rfl|constructor);done)|exact aj5)
  have p0:decide ((s:Int)<(m:Int))=false:=decide_eq_false (by omega)
  obtain rfl:s=m:=by omega
  have f1:decide ((s:Int)<(s:Int))=false:=decide_eq_false (by omega)
  have f2:decide ((a:Int)<(s:Int))=true:=decide_eq_true (by omega)
  have f4:decide (((a:Int)+(b:Int)) / 2^Int.toNat 1<((a:Int)+(b:Int)) / 2^Int.toNat 1+(s:Int)-(s:Int))=false:=decide_eq_false (by omega)
  by_cases g:s<d
  ·have f3:decide ((s:Int)<((a:Int)+(b:Int)) / 2^Int.toNat 1)=true:=decide_eq_true (by rw[y6];omega)
   repeat'((conv=>whnf);first|apply And.intro|exact bA (by subst_vars;assumption)|intro h9)
   all_goals(try(conv=>whnf))<;>(subst_vars;try first|(apply Tk.mk;kernel_rfl)|exact⟨ah rfl⟩|exact⟨rfl⟩|exact⟨trivial⟩|rfl|contradiction|(apply Ob.mk;(try simp only[ag,ak,aa.ae])<;>(try dsimp only)<;>omega))
   all_goals first|trivial|exact⟨hT⟩|exact⟨⟨rfl,rfl,rfl⟩⟩|(refine Ob.mk ?_;show 0<=(_:Int)/\(_:Int)<(_:Int)/\(_:Int)<(_:Int)/\(_:Int)<=(T.length:Int);omega)
  have f3:decide ((s:Int)<((a:Int)+(b:Int)) / 2^Int.toNat 1)=false:=decide_eq_false (by rw[y6];omega)
  repeat'((conv=>whnf);first|apply And.intro|exact bA (by subst_vars;assumption)|intro h9)
  all_goals(try(conv=>whnf))<;>(subst_vars;try first|(apply Tk.mk;kernel_rfl)|exact⟨ah rfl⟩|exact⟨rfl⟩|exact⟨trivial⟩|rfl|contradiction|(apply Ob.mk;(try simp only[ag,ak,aa.ae])<;>(try dsimp only)<;>omega))
  all_goals first|trivial
end Go.Proofs.Ytccnimhgjjnmoaa
end
section
namespace Go.Proofs.Ytccnimhgjjnmoaa
open Go Go.Sy Go.dg
variable {Γ:bn}
attribute [local irreducible] bJ td Pn
noncomputable def aqQ:au:=axT (fun T n k p c=>[asm T,ar0 k p c,(aa.of (n=T.length))]) (fun _ _ _ _ _=> .bF [])
noncomputable def axv:List (Nat×au):=[(119,asX),(120,(apH 1000000))]
theorem asG:aR Try.prog Γ axv:=((aR.nil.cons (aj Try.func120 rfl rfl).fn (as1 1000000)).cons (aj Try.func119 rfl rfl).fn asY)
theorem arX:au.Ok Try.prog Γ 104 aqQ:=awM (d:=0) (aP asG bq.nil false 0) (aj Try.func104 rfl rfl) (fun _ _ _ _ _=>rfl) (by
 intro T n k p c ⟨hT,hv,hn,_⟩;simp only[aa.ae]at hn;replace hT:Uf T:=hT;obtain⟨rfl,rfl,rfl⟩:k= .func 94/\p=#[.agg #[]]/\c=#[]:=hv;have Sa:=hT.Kg;subst hn;repeat'((conv=>whnf);first|apply And.intro|exact bA (by subst_vars;assumption)|intro h9)
 all_goals(try(conv=>whnf))<;>(subst_vars;try first|(apply Tk.mk;kernel_rfl)|exact⟨ah rfl⟩|exact⟨rfl⟩|exact⟨trivial⟩|rfl|contradiction|(apply Ob.mk;(try simp only[ag,ak,aa.ae])<;>(try dsimp only)<;>omega))
 refine⟨Nat,fun a=>a<=T.length,fun a=>⟨aI 63 [0,1,2,6,7,8] [.a (.sl 0 [] 0 T.length),.a (vI T.length),.a (.v alo),.a (vI 20),.a (vI a),.a (vI ((a:Int)+20))],[],[.arr 27 kT T false false]⟩,fun a=>T.length-a,0,[0],Nat.zero_le _,?_,?_⟩
 ·repeat'((conv=>whnf)<;>first|apply And.intro|intro _|rfl|trivial|exact ah rfl|exact aS ‹_› rfl|exact aT ‹_› rfl|((repeat' first|rfl|constructor);done))
 rintro a ha;by_cases h1:a+20<=T.length
 ·have p0:decide ((a:Int)+20<=(T.length:Int))=true:=decide_eq_true (by omega)
  have s1:(a:Int)+20=((a+20:Nat):Int):=by omega
  have s2:(a:Int)+20+20=((a+20:Nat):Int)+20:=by omega
  repeat'((conv=>whnf);first|apply And.intro|exact bA (by subst_vars;assumption)|intro h9)
  all_goals(try(conv=>whnf))<;>(subst_vars;try first|(apply Tk.mk;kernel_rfl)|exact⟨ah rfl⟩|exact⟨rfl⟩|exact⟨trivial⟩|rfl|contradiction|(apply Ob.mk;(try simp only[ag,ak,aa.ae])<;>(try dsimp only)<;>omega))
  all_goals try first|exact⟨hT⟩|exact⟨⟨rfl,rfl,rfl⟩⟩|(refine Ob.mk ?_;show 0<=(_:Int)/\(_:Int)<=(_:Int)/\(_:Int)<=(T.length:Int);omega)
  refine⟨a+20,[0],h1,?_,by show T.length-(a+20)<T.length-a;omega⟩
  repeat'((conv=>whnf)<;>first|apply And.intro|intro _|rfl|trivial|exact ah rfl|exact aS ‹_› rfl|exact aT ‹_› rfl|((repeat' first|rfl|constructor);done)|exact s1|exact s2)
 have p0:decide ((a:Int)+20<=(T.length:Int))=false:=decide_eq_false (by omega)
 repeat'((conv=>whnf);first|apply And.intro|exact bA (by subst_vars;assumption)|intro h9)
 all_goals(try(conv=>whnf))<;>(subst_vars;try first|(apply Tk.mk;kernel_rfl)|exact⟨ah rfl⟩|exact⟨rfl⟩|exact⟨trivial⟩|rfl|contradiction|(apply Ob.mk;(try simp only[ag,ak,aa.ae])<;>(try dsimp only)<;>omega))
 all_goals try first|exact⟨hT⟩|exact⟨⟨rfl,rfl,rfl⟩⟩|(refine Ob.mk ?_;show 0<=(_:Int)/\(_:Int)<=(_:Int)/\(_:Int)<=(T.length:Int);omega)
 refine⟨Nat,fun x=>1<=x/\x<=2000000,fun x=>⟨aI 63 [0,1,2,6] [.a (.sl 0 [] 0 T.length),.a (vI T.length),.a (.v alo),.a (vI x)],[],[.arr 27 kT T false false]⟩,fun x=>4000000-x,20,[0],by omega,?_,?_⟩
 ·repeat'((conv=>whnf)<;>first|apply And.intro|intro _|rfl|trivial|exact ah rfl|exact aS ‹_› rfl|exact aT ‹_› rfl|((repeat' first|rfl|constructor);done))
 rintro x ⟨cO,cq⟩;by_cases h2:x<T.length
 ·have q0:decide ((x:Int)<(T.length:Int))=true:=decide_eq_true (by omega)
  repeat'((conv=>whnf);first|apply And.intro|exact bA (by subst_vars;assumption)|intro h9)
  all_goals(try(conv=>whnf))<;>(subst_vars;try first|(apply Tk.mk;kernel_rfl)|exact⟨ah rfl⟩|exact⟨rfl⟩|exact⟨trivial⟩|rfl|contradiction|(apply Ob.mk;(try simp only[ag,ak,aa.ae])<;>(try dsimp only)<;>omega))
  refine⟨Nat,fun y=>y<=T.length,fun y=>⟨aI 63 [0,1,2,6,7,8] [.a (.sl 0 [] 0 T.length),.a (vI T.length),.a (.v alo),.a (vI x),.a (vI y),.a (vI ((y:Int)+2*(x:Int)))],[],[.arr 27 kT T false false]⟩,fun y=>T.length-y,0,[0],Nat.zero_le _,?_,?_⟩
  ·repeat'((conv=>whnf);(first|apply And.intro|intro _))
   all_goals first|rfl|trivial|exact ah rfl|exact aS ‹_› rfl|exact aT ‹_› rfl|((repeat' first|rfl|constructor);done)|(show(_:Int)=_;omega)
  rintro y hy;by_cases h3:y+2*x<=T.length
  ·have q1:decide ((y:Int)+2*(x:Int)<=(T.length:Int))=true:=decide_eq_true (by omega)
   have s1:(y:Int)+2*(x:Int)=((y+2*x:Nat):Int):=by omega
   have s2:(y:Int)+2*(x:Int)+2*(x:Int)=((y+2*x:Nat):Int)+2*(x:Int):=by omega
   repeat'((conv=>whnf);first|apply And.intro|exact bA (by subst_vars;assumption)|intro h9)
   all_goals(try(conv=>whnf))<;>(subst_vars;try first|(apply Tk.mk;kernel_rfl)|exact⟨ah rfl⟩|exact⟨rfl⟩|exact⟨trivial⟩|rfl|contradiction|(apply Ob.mk;(try simp only[ag,ak,aa.ae])<;>(try dsimp only)<;>omega))
   all_goals try first|exact⟨hT⟩|exact⟨⟨rfl,rfl,rfl⟩⟩|(refine Ob.mk ?_;show 0<=(_:Int)/\(_:Int)<(_:Int)/\(_:Int)<(_:Int)/\(_:Int)<=(T.length:Int);omega)
   refine⟨y+2*x,[0],h3,?_,by show T.length-(y+2*x)<T.length-y;omega⟩
   repeat'((conv=>whnf)<;>first|apply And.intro|intro _|rfl|trivial|exact ah rfl|exact aS ‹_› rfl|exact aT ‹_› rfl|((repeat' first|rfl|constructor);done)|exact s1|exact s2)
  have q1:decide ((y:Int)+2*(x:Int)<=(T.length:Int))=false:=decide_eq_false (by omega)
  have s3:(x:Int)*2=((x*2:Nat):Int):=by omega
  by_cases h4:y+x<T.length
  ·have q2:decide ((y:Int)+(x:Int)<(T.length:Int))=true:=decide_eq_true (by omega)
   repeat'((conv=>whnf);first|apply And.intro|exact bA (by subst_vars;assumption)|intro h9)
   all_goals(try(conv=>whnf))<;>(subst_vars;try first|(apply Tk.mk;kernel_rfl)|exact⟨ah rfl⟩|exact⟨rfl⟩|exact⟨trivial⟩|rfl|contradiction|(apply Ob.mk;(try simp only[ag,ak,aa.ae])<;>(try dsimp only)<;>omega))
   all_goals try first|exact⟨hT⟩|exact⟨⟨rfl,rfl,rfl⟩⟩|(refine Ob.mk ?_;show 0<=(_:Int)/\(_:Int)<(_:Int)/\(_:Int)<(_:Int)/\(_:Int)<=(T.length:Int);omega)
   refine⟨x*2,[0],by omega,?_,by show 4000000-x*2<4000000-x;omega⟩
   repeat'((conv=>whnf)<;>first|apply And.intro|intro _|rfl|trivial|exact ah rfl|exact aS ‹_› rfl|exact aT ‹_› rfl|((repeat' first|rfl|constructor);done)|exact s3)
  have q2:decide ((y:Int)+(x:Int)<(T.length:Int))=false:=decide_eq_false (by omega)
  repeat'((conv=>whnf);first|apply And.intro|exact bA (by subst_vars;assumption)|intro h9)
  all_goals(try(conv=>whnf))<;>(subst_vars;try first|(apply Tk.mk;kernel_rfl)|exact⟨ah rfl⟩|exact⟨rfl⟩|exact⟨trivial⟩|rfl|contradiction|(apply Ob.mk;(try simp only[ag,ak,aa.ae])<;>(try dsimp only)<;>omega))
  refine⟨x*2,[0],by omega,?_,by show 4000000-x*2<4000000-x;omega⟩
  repeat'((conv=>whnf)<;>first|apply And.intro|intro _|rfl|trivial|exact ah rfl|exact aS ‹_› rfl|exact aT ‹_› rfl|((repeat' first|rfl|constructor);done)|exact s3)
 have q0:decide ((x:Int)<(T.length:Int))=false:=decide_eq_false (by omega)
 repeat'((conv=>whnf);first|apply And.intro|exact bA (by subst_vars;assumption)|intro h9)
 all_goals(try(conv=>whnf))<;>(subst_vars;try first|(apply Tk.mk;kernel_rfl)|exact⟨ah rfl⟩|exact⟨rfl⟩|exact⟨trivial⟩|rfl|contradiction|(apply Ob.mk;(try simp only[ag,ak,aa.ae])<;>(try dsimp only)<;>omega))
 all_goals first|trivial)
noncomputable def asV:au:=azm (fun T k p c=>[asm T,ar0 k p c]) (fun _ _ _ _=> .bF [])
noncomputable def ayY:List (Nat×au):=[(104,aqQ)]
theorem aug:aR Try.prog Γ ayY:=(aR.nil.cons (aj Try.func104 rfl rfl).fn arX)
theorem asW:au.Ok Try.prog Γ 93 asV:=axS (d:=0) (aP aug bq.nil false 0) (aj Try.func93 rfl rfl) (fun _ _ _ _=>rfl) (by
 intro T k p c ⟨hT,hv,_⟩;replace hT:Uf T:=hT;obtain⟨rfl,rfl,rfl⟩:k= .func 94/\p=#[.agg #[]]/\c=#[]:=hv;have Sa:=hT.Kg;repeat'((conv=>whnf);first|apply And.intro|exact bA (by subst_vars;assumption)|intro h9)
 all_goals(try(conv=>whnf))<;>(subst_vars;try first|(apply Tk.mk;kernel_rfl)|exact⟨ah rfl⟩|exact⟨rfl⟩|exact⟨trivial⟩|rfl|contradiction|(apply Ob.mk;(try simp only[ag,ak,aa.ae])<;>(try dsimp only)<;>omega))
 all_goals first|trivial|exact⟨hT⟩|exact⟨⟨rfl,rfl,rfl⟩⟩|(refine Ob.mk ?_;show(_:Int)=(T.length:Int);rfl))
end Go.Proofs.Ytccnimhgjjnmoaa
end
section
namespace Go.Proofs.Ytccnimhgjjnmoaa
open Go Go.Sy Go.dg
variable {Γ:bn}
attribute [local irreducible] ck wN sub e7 ta kG adp aQ jP Pn
abbrev anw (L:List Bk) (q:Nat):Sl:=aI 36 [0,3,5,9,10] [.a (.sl 0 [] 0 L.length),.a (.p 1 [] 0 0),.a (.p 2 [] 0 0),.a (vI L.length),.a (vI q)]
noncomputable abbrev ans (fn:FuncId) (T:Array Value) (dd:Nat):Loop:=ac5 Try.f62 0 fn T dd
structure arz (tt:Tr) (fr:List Sl):Prop where
 hd:∀ is m n,(∀ r,r<12->rn is r=r)->12<=m->12<=n->wM is m n tt tt
 tl:∀ is m n,(∀ r,r<12->rn is r=r)->12<=m->12<=n->NU is m n fr fr
 km:∀ k,Tr.gY (Tm.mapA (At.kill true true 3)) tt k<->k tt
 kl:∀ k,fD (Sl.gY (At.kill true true 3)) fr k<->k fr
theorem arz.push {tn:Nat} {tt:Tr} {fr:List Sl} (h:arz tt fr) {s:Tr} (hs:∀ is m n,(∀ r,r<12->rn is r=r)->12<=m->12<=n->wM is m n s s) (hk:∀ k,Tr.gY (Tm.mapA (At.kill true true 3)) s k<->k s):arz s (⟨tn,tt⟩::fr):=
 ⟨hs,fun is m n h1 h2 h3=>⟨⟨rfl,h.hd is m n h1 h2 h3⟩,h.tl is m n h1 h2 h3⟩,hk,fun k=>(h.km _).trans (h.kl _)⟩
def ay9 (id:Nat):Option (Nat×OT):=match Nat.beq id 7 with|true=>some (14,(.take 0 (.take 1 (.take 2 (.take 3 (.take 4 (.take 5 (.take 6 (.take 7 (.take 8 (.take 9 (.take 10 (.take 11 (.take 12 (.take 13 .fin)))))))))))))))|false=>none
def aze (id:Nat):Option (List Nat):=match Nat.beq id 8 with|true=>some [0,1,2,3,4]|false=>none
noncomputable def axt:List (Nat×au):=[(85,apE),(88,amM),(93,asV)]
theorem awj:aR Try.prog Γ axt:=(((aR.nil.cons (aj Try.func93 rfl rfl).fn asW).cons (aj Try.func88 rfl rfl).fn al2).cons (aj Try.func85 rfl rfl).fn aoL)
noncomputable def avF:List (Nat×Body):=[(68,bo Try.f68),(97,bo Try.f97),(98,bo Try.f98)]
theorem auy:bq Try.prog avF:=(((bq.nil.cons (cg Try.func98 rfl rfl)).cons (cg Try.func97 rfl rfl)).cons (cg Try.func68 rfl rfl))
noncomputable def atb:Env:={jV.env axt avF false 0 with htr:=ay9}
theorem atc:aL Try.prog Γ atb:=(aP awj auy false 0).NA _
noncomputable def atd:Env:={atb with ord:=aze}
theorem ate:aL Try.prog Γ atd:=atc.Ju _
noncomputable def gL:Env:={atd with cut:=fun t=>match Nat.beq t 2007 with|true=>true|false=>(match Nat.beq t 1002 with|true=>true|false=>Nat.beq t 3000)}
theorem auM:aL Try.prog Γ gL:=ate.aBf _
section
variable (l t f:Int) (L:List Bk) (q k l0:Nat) (fn:FuncId) (T:Array Value) (dd:Nat)
def anA (m:Nat) (cl:Cl):Prop:=∀ (n i:Nat) (zn zi s:Int) (A:List Int) (acc:List (List Int)) (tn:Nat) (tt:Tr) (fr:List Sl) (Kc:Tm->St->Prop),
 zn=n->zi=i->n+m=k->i<=L.length->A.length=k->0<=s->s<=n*56294996342131->(acc++jP f (l-t) (l+t) L m (L.length-i) i s (A.take n)).length<=2000000->arz tt fr->
 (∀ A',A'.length=k->A'.take n=A.take n->Kc (.a .tt) ⟨⟨tn,tt⟩,fr,[.arr 67 kK L false false,.box true [vI l,vI t,vI f],.box true [.sl 3 [] 0 ((acc++jP f (l-t) (l+t) L m (L.length-i) i s (A.take n))).length],.arr 27 kT (acc++jP f (l-t) (l+t) L m (L.length-i) i s (A.take n)) true true,.box true [.sl 0 [] 0 L.length],.box true [vI f],.box true [vI k],.lp l0 (anw L q) (ans fn T dd) .ready none,.box true [.yl 7],.arr 3 kI A' true true,.box true [.sl 9 [] 0 k],.box true [.fn 98 [6,8,10,5,4,11]]]⟩)->
 cl (bo Try.f98) [.a (vI zn),.a (vI zi),.a (vI s),.a (.p 6 [] 0 0),.a (.p 8 [] 0 0),.a (.p 10 [] 0 0),.a (.p 5 [] 0 0),.a (.p 4 [] 0 0),.a (.p 11 [] 0 0)] ⟨⟨tn,tt⟩,fr,[.arr 67 kK L false false,.box true [vI l,vI t,vI f],.box true [.sl 3 [] 0 (acc).length],.arr 27 kT acc true true,.box true [.sl 0 [] 0 L.length],.box true [vI f],.box true [vI k],.lp l0 (anw L q) (ans fn T dd) .ready none,.box true [.yl 7],.arr 3 kI A true true,.box true [.sl 9 [] 0 k],.box true [.fn 98 [6,8,10,5,4,11]]]⟩ Kc
variable {l t f} {L} {q k l0} {fn} {T} {dd}
theorem asc (hB:gb L) (hf:0<=f/\f<=1000000) (hl:-1152921504606846976<=l/\l<=1152921504606846976) (ht:-1152921504606846976<=t/\t<=1152921504606846976) (hk:k<=20) (e:Nat) (cl:Cl):
 anA l t f L q k l0 fn T dd 0 (GG gL (jD gL cl (wF (MC gL (e+1))) none)):=by
 intro n i zn zi s A acc tn tt fr Kc alw amD hn hi hA fK xX hacc hfr iB;have hkk:(zn==(k:Int))=true:=by rw[alw,show n=k by omega];exact beq_self_eq_true _
 have hT:A.take n=A:=List.take_of_length_le (by omega)
 rw[hT]at hacc iB;have pT:s<=1125919926842620:=by omega
 have iB:=iB A hA hT;replace hA:=And.intro hA trivial;clear amD hn;cases hg:aQ (s-f) (l-t) (l+t)
 ·have e0:jP f (l-t) (l+t) L 0 (L.length-i) i s A=[]:=by unfold jP;rw[hg];rfl
  rw[e0,List.append_nil]at iB;clear e0 hacc;repeat'((conv=>whnf);first|apply And.intro|exact bA (by subst_vars;assumption)|intro h9)
  all_goals(try(conv=>whnf))<;>(subst_vars;try first|(apply Tk.mk;kernel_rfl)|exact⟨ah rfl⟩|exact⟨rfl⟩|exact⟨trivial⟩|rfl|contradiction|(apply Ob.mk;(try simp only[ag,ak,aa.ae])<;>(try dsimp only)<;>omega))
  refine⟨Unit,fun _=>True,fun _=>⟨aI 55 [12] [.a .tt],⟨tn,tt⟩::fr,[.arr 67 kK L false false,.box true [vI l,vI t,vI f],.box true [.sl 3 [] 0 (acc).length],.arr 27 kT acc true true,.box true [.sl 0 [] 0 L.length],.box true [vI f],.box true [vI k],.lp l0 (anw L q) (ans fn T dd) .ready none,.box true [.yl 7],.arr 3 kI A true true,.box true [.sl 9 [] 0 k],.box true [.fn 98 [6,8,10,5,4,11]]]⟩,?_,?_⟩
  ·repeat'((conv=>whnf);first|apply And.intro|exact bA (by subst_vars;assumption)|intro h9)
   all_goals(try(conv=>whnf))<;>(subst_vars;try first|(apply Tk.mk;kernel_rfl)|exact⟨ah rfl⟩|exact⟨rfl⟩|exact⟨trivial⟩|rfl|contradiction|(apply Ob.mk;(try simp only[ag,ak,aa.ae])<;>(try dsimp only)<;>omega))
   refine⟨(),[0,1,2,3,4,5,6,7,8,9,10,11],trivial,?_⟩;repeat'((conv=>whnf);(first|apply And.intro|intro _))
   all_goals first|rfl|trivial|exact ah rfl|exact⟨rfl,rfl,rfl⟩|exact⟨rfl,rfl⟩|exact hfr.hd _ _ _ (by decide) (ah rfl) (ah rfl)|exact hfr.tl _ _ _ (by decide) (ah rfl) (ah rfl)|exact hA.1|exact hA.1.symm|exact ZR|exact ZR.symm|exact⟨rfl,rfl,hap⟩|(rename_i r9 bx;revert r9;decide)
  rintro _ _;repeat'((conv=>whnf);first|apply And.intro|exact bA (by subst_vars;assumption)|intro h9)
  all_goals(try(conv=>whnf))<;>(subst_vars;try first|(apply Tk.mk;kernel_rfl)|exact⟨ah rfl⟩|exact⟨rfl⟩|exact⟨trivial⟩|rfl|contradiction|(apply Ob.mk;(try simp only[ag,ak,aa.ae])<;>(try dsimp only)<;>omega))
  all_goals try first|trivial
  all_goals exact iB
 have e0:jP f (l-t) (l+t) L 0 (L.length-i) i s A=[A]:=by unfold jP;rw[hg];rfl
 rw[e0]at iB hacc;have aoT:acc.length+1<=2000000:=by rw[List.length_append,List.length_singleton]at hacc;exact hacc
 have ZR:(acc++[A]).length=acc.length+1:=by rw[List.length_append,List.length_singleton]
 have hap:acc++[A]=acc++[A]:=rfl;rw[ZR]at iB;clear e0 hacc;repeat'((conv=>whnf);first|apply And.intro|exact bA (by subst_vars;assumption)|intro h9)
 all_goals(try(conv=>whnf))<;>(subst_vars;try first|(apply Tk.mk;kernel_rfl)|exact⟨ah rfl⟩|exact⟨rfl⟩|exact⟨trivial⟩|rfl|contradiction|(apply Ob.mk;(try simp only[ag,ak,aa.ae])<;>(try dsimp only)<;>omega))
 refine⟨Unit,fun _=>True,fun _=>⟨aI 55 [12] [.a .tt],⟨tn,tt⟩::fr,[.arr 67 kK L false false,.box true [vI l,vI t,vI f],.box true [.sl 3 [] 0 (acc.length+1)],.arr 27 kT (acc++[A]) true true,.box true [.sl 0 [] 0 L.length],.box true [vI f],.box true [vI k],.lp l0 (anw L q) (ans fn T dd) .ready none,.box true [.yl 7],.arr 3 kI A true true,.box true [.sl 9 [] 0 k],.box true [.fn 98 [6,8,10,5,4,11]]]⟩,?_,?_⟩
 ·repeat'((conv=>whnf);first|apply And.intro|exact bA (by subst_vars;assumption)|intro h9)
  all_goals(try(conv=>whnf))<;>(subst_vars;try first|(apply Tk.mk;kernel_rfl)|exact⟨ah rfl⟩|exact⟨rfl⟩|exact⟨trivial⟩|rfl|contradiction|(apply Ob.mk;(try simp only[ag,ak,aa.ae])<;>(try dsimp only)<;>omega))
  all_goals try first|exact⟨Nat.zero_add _⟩|exact⟨show(acc.length+1)*1<=1099511627776 by omega⟩|exact⟨hA.1.symm⟩|exact⟨show A.length<=1000000 by omega⟩
  refine(hfr.km _).mpr ?_;repeat'((conv=>whnf);first|apply And.intro|exact bA (by subst_vars;assumption)|intro h9)
  all_goals(try(conv=>whnf))<;>(subst_vars;try first|(apply Tk.mk;kernel_rfl)|exact⟨ah rfl⟩|exact⟨rfl⟩|exact⟨trivial⟩|rfl|contradiction|(apply Ob.mk;(try simp only[ag,ak,aa.ae])<;>(try dsimp only)<;>omega))
  refine(hfr.kl _).mpr ?_;repeat'((conv=>whnf);first|apply And.intro|exact bA (by subst_vars;assumption)|intro h9)
  all_goals(try(conv=>whnf))<;>(subst_vars;try first|(apply Tk.mk;kernel_rfl)|exact⟨ah rfl⟩|exact⟨rfl⟩|exact⟨trivial⟩|rfl|contradiction|(apply Ob.mk;(try simp only[ag,ak,aa.ae])<;>(try dsimp only)<;>omega))
  refine⟨(),[0,1,2,3,4,5,6,7,8,9,10,11],trivial,?_⟩;repeat'((conv=>whnf);(first|apply And.intro|intro _))
  all_goals first|rfl|trivial|exact ah rfl|exact⟨rfl,rfl,rfl⟩|exact⟨rfl,rfl⟩|exact hfr.hd _ _ _ (by decide) (ah rfl) (ah rfl)|exact hfr.tl _ _ _ (by decide) (ah rfl) (ah rfl)|exact hA.1|exact hA.1.symm|exact ZR|exact ZR.symm|exact⟨rfl,rfl,hap⟩|(rename_i r9 bx;revert r9;decide)
 rintro _ _;repeat'((conv=>whnf);first|apply And.intro|exact bA (by subst_vars;assumption)|intro h9)
 all_goals(try(conv=>whnf))<;>(subst_vars;try first|(apply Tk.mk;kernel_rfl)|exact⟨ah rfl⟩|exact⟨rfl⟩|exact⟨trivial⟩|rfl|contradiction|(apply Ob.mk;(try simp only[ag,ak,aa.ae])<;>(try dsimp only)<;>omega))
 all_goals try first|trivial
 all_goals exact iB
theorem asb (hB:gb L) (hf:0<=f/\f<=1000000) (hk:k<=20) (m:Nat) (cl:Cl) (rd:Rd) (IH:anA l t f L q k l0 fn T dd m cl):
 anA l t f L q k l0 fn T dd (m+1) (GG gL (jD gL cl rd none)):=by
 intro n i zn zi s A acc tn tt fr Kc alw amD hn hi hA fK xX hacc hfr iB;have hN:=hB.Kg;obtain rfl:=alw;obtain rfl:=amD;have hkk:((n:Int)==(k:Int))=false:=beq_eq_false_iff_ne.2 (by omega)
 have hnk:n+m+1<=k/\k<=n+m+1:=by omega
 replace hA:=And.intro hA trivial;clear hn;repeat'((conv=>whnf);first|apply And.intro|exact bA (by subst_vars;assumption)|intro h9)
 all_goals(try(conv=>whnf))<;>(subst_vars;try first|(apply Tk.mk;kernel_rfl)|exact⟨ah rfl⟩|exact⟨rfl⟩|exact⟨trivial⟩|rfl|contradiction|(apply Ob.mk;(try simp only[ag,ak,aa.ae])<;>(try dsimp only)<;>omega))
 refine⟨Nat×List Int×List (List Int),fun x=>(i<=x.1/\x.1<=L.length)/\(x.2.1.length=k/\x.2.1.take n=A.take n)/\acc++jP f (l-t) (l+t) L (m+1) (L.length-i) i s (A.take n)=x.2.2++jP f (l-t) (l+t) L (m+1) (L.length-x.1) x.1 s (A.take n),fun|(j,A,acc)=>⟨aI 55 [0,2,3,4,5,6,7,8,13] [.a (vI n),.a (vI s),.a (.p 6 [] 0 0),.a (.p 8 [] 0 0),.a (.p 10 [] 0 0),.a (.p 5 [] 0 0),.a (.p 4 [] 0 0),.a (.p 11 [] 0 0),.a (vI j)],⟨tn,tt⟩::fr,[.arr 67 kK L false false,.box true [vI l,vI t,vI f],.box true [.sl 3 [] 0 (acc).length],.arr 27 kT acc true true,.box true [.sl 0 [] 0 L.length],.box true [vI f],.box true [vI k],.lp l0 (anw L q) (ans fn T dd) .ready none,.box true [.yl 7],.arr 3 kI A true true,.box true [.sl 9 [] 0 k],.box true [.fn 98 [6,8,10,5,4,11]]]⟩,fun x=>L.length+1-x.1,(i,A,acc),[0,1,2,3,4,5,6,7,8,9,10,11],⟨⟨Nat.le_refl _,hi⟩,⟨hA.1,rfl⟩,rfl⟩,?_,?_⟩
 ·repeat'((conv=>whnf);(first|apply And.intro|intro _))
  all_goals first|rfl|trivial|exact ah rfl|exact⟨rfl,rfl,rfl⟩|exact⟨rfl,rfl⟩|exact hfr.hd _ _ _ (by decide) (ah rfl) (ah rfl)|exact hfr.tl _ _ _ (by decide) (ah rfl) (ah rfl)|(rename_i r9 bx;revert r9;decide)
 rintro⟨j,B,alI⟩ ⟨⟨aoU,hj⟩,⟨akA,amy⟩,hsrc⟩;dsimp only at aoU hj akA amy hsrc;replace akA:=And.intro akA trivial;by_cases Ho:j+(m+1)<=L.length
 ·have p0:decide ((j:Int)<=(L.length:Int)-((k:Int)-(n:Int)))=true:=decide_eq_true (by omega)
  have akD:j<L.length:=by omega
  have hlen:=hB.len (show bk L j∈L by rw[akX akD];exact List.getElem_mem akD)
  rw[<-tb L j]at hlen;have jK:=And.intro (show(B.set (0+Int.toNat (n:Int)) (j:Int)).length=k by rw[List.length_set];exact akA.1) trivial
  have vg:(B.set (0+Int.toNat (n:Int)) (j:Int)).take (n+1)=A.take n++[(j:Int)]:=by
   rw[Nat.zero_add,Int.toNat_natCast,<-amy];exact take_set (by omega)
  have hidx:0+Int.toNat (n:Int)<B.length:=by omega
  have r1:ak .i64 (s+(gr L j).2):=by simp only[ak];omega
  have r2:ak .i64 (s+(gr L j).2+f):=by simp only[ak];omega
  have hst:=atW (f:=f) (lo:=l-t) (hi:=l+t) (L:=L) (m:=m) (s:=s) (p:=A.take n) akD;rw[show bk L j=gr L j from(tb L j).symm]at hst;have api:(alI++jP f (l-t) (l+t) L m (L.length-(j+1)) (j+1) (s+(gr L j).2+f) (A.take n++[(j:Int)])).length<=2000000:=by
   rw[hsrc,hst,<-List.append_assoc,List.length_append]at hacc;omega
  rw[<-vg]at api;repeat'((conv=>whnf);first|apply And.intro|exact bA (by subst_vars;assumption)|intro h9)
  all_goals(try(conv=>whnf))<;>(subst_vars;try first|(apply Tk.mk;kernel_rfl)|exact⟨ah rfl⟩|exact⟨rfl⟩|exact⟨trivial⟩|rfl|contradiction|(apply Ob.mk;(try simp only[ag,ak,aa.ae])<;>(try dsimp only)<;>omega))
  all_goals try first|exact⟨hidx⟩
  refine⟨List Int×List (List Int),fun x=>x.1.length=k/\x.1.take n=A.take n/\x.2=alI++jP f (l-t) (l+t) L m (L.length-(j+1)) (j+1) (s+(gr L j).2+f) (A.take n++[(j:Int)]),fun|(A,acc)=>⟨aI 55 [0,2,3,4,5,6,7,8,13,54] [.a (vI n),.a (vI s),.a (.p 6 [] 0 0),.a (.p 8 [] 0 0),.a (.p 10 [] 0 0),.a (.p 5 [] 0 0),.a (.p 4 [] 0 0),.a (.p 11 [] 0 0),.a (vI j),.a .ff],⟨tn,tt⟩::fr,[.arr 67 kK L false false,.box true [vI l,vI t,vI f],.box true [.sl 3 [] 0 (acc).length],.arr 27 kT acc true true,.box true [.sl 0 [] 0 L.length],.box true [vI f],.box true [vI k],.lp l0 (anw L q) (ans fn T dd) .ready none,.box true [.yl 7],.arr 3 kI A true true,.box true [.sl 9 [] 0 k],.box true [.fn 98 [6,8,10,5,4,11]]]⟩,?_,?_⟩
  ·repeat'((conv=>whnf);first|apply And.intro|exact bA (by subst_vars;assumption)|intro h9)
   all_goals(try(conv=>whnf))<;>(subst_vars;try first|(apply Tk.mk;kernel_rfl)|exact⟨ah rfl⟩|exact⟨rfl⟩|exact⟨trivial⟩|rfl|contradiction|(apply Ob.mk;(try simp only[ag,ak,aa.ae])<;>(try dsimp only)<;>omega))
   all_goals try first|exact⟨r1⟩|exact⟨r2⟩|exact⟨show 0+Int.toNat (j:Int)<L.length by omega⟩
   refine IH (n+1) (j+1) _ _ (s+(gr L j).2+f) _ alI _ _ _ _ rfl rfl (by omega) (by omega) jK.1 (by omega) (by omega) api (hfr.push ?_ ?_) ?_
   ·intro is m n h1 h2 h3;repeat'((conv=>whnf);(first|apply And.intro|intro _))
    all_goals first|rfl|trivial|omega|(rw[h1 _ (by omega)];done)|(rw[h1 _ (by omega)];omega)|(simp only[List.map_cons,List.map_nil];rw[h1 6 (by decide),h1 8 (by decide),h1 10 (by decide),h1 5 (by decide),h1 4 (by decide),h1 11 (by decide)];done)|(have h7:=(show ∀ r∈[6,8,10,5,4,11],r<12 by decide) _ ‹_›;first|omega|(rw[h1 _ h7];omega))
   ·intro k;exact Iff.rfl
   ·intro A' nu acz;replace acz:A'.take (n+1)=(B.set (0+Int.toNat (n:Int)) (j:Int)).take (n+1):=acz;have atr:A'.take n=A.take n:=anq (by omega) (acz.trans vg)
    replace nu:=And.intro nu trivial;have ajV:alI++jP f (l-t) (l+t) L m (L.length-(j+1)) (j+1) (s+(gr L j).2+f) ((B.set (0+Int.toNat (n:Int)) (j:Int)).take (n+1))=alI++jP f (l-t) (l+t) L m (L.length-(j+1)) (j+1) (s+(gr L j).2+f) (A.take n++[(j:Int)]):=by rw[vg]
    repeat'((conv=>whnf);first|apply And.intro|exact bA (by subst_vars;assumption)|intro h9)
    all_goals(try(conv=>whnf))<;>(subst_vars;try first|(apply Tk.mk;kernel_rfl)|exact⟨ah rfl⟩|exact⟨rfl⟩|exact⟨trivial⟩|rfl|contradiction|(apply Ob.mk;(try simp only[ag,ak,aa.ae])<;>(try dsimp only)<;>omega))
    refine⟨(A',_),[0,1,2,3,4,5,6,7,8,9,10,11],⟨nu.1,atr,ajV⟩,?_⟩;repeat'((conv=>whnf);(first|apply And.intro|intro _))
    all_goals first|rfl|trivial|exact ah rfl|exact⟨rfl,rfl,rfl⟩|exact⟨rfl,rfl⟩|exact hfr.hd _ _ _ (by decide) (ah rfl) (ah rfl)|exact hfr.tl _ _ _ (by decide) (ah rfl) (ah rfl)|(rename_i r9 bx;revert r9;decide)
  rintro⟨A',aun⟩ ⟨alu,acz,h0⟩;dsimp only at alu acz h0;replace alu:=And.intro alu trivial;replace h0:=And.intro h0 trivial;repeat'((conv=>whnf);first|apply And.intro|exact bA (by subst_vars;assumption)|intro h9)
  all_goals(try(conv=>whnf))<;>(subst_vars;try first|(apply Tk.mk;kernel_rfl)|exact⟨ah rfl⟩|exact⟨rfl⟩|exact⟨trivial⟩|rfl|contradiction|(apply Ob.mk;(try simp only[ag,ak,aa.ae])<;>(try dsimp only)<;>omega))
  refine⟨(j+1,A',aun),[0,1,2,3,4,5,6,7,8,9,10,11],⟨⟨by dsimp only;omega,akD⟩,⟨alu.1,acz⟩,by dsimp only;rw[hsrc,hst,h0.1,List.append_assoc]⟩,?_,by show L.length+1-(j+1)<L.length+1-j;omega⟩
  repeat'((conv=>whnf);(first|apply And.intro|intro _))
  all_goals first|rfl|trivial|exact ah rfl|exact⟨rfl,rfl,rfl⟩|exact⟨rfl,rfl⟩|exact hfr.hd _ _ _ (by decide) (ah rfl) (ah rfl)|exact hfr.tl _ _ _ (by decide) (ah rfl) (ah rfl)|(rename_i r9 bx;revert r9;decide)
 have p0:decide ((j:Int)<=(L.length:Int)-((k:Int)-(n:Int)))=false:=decide_eq_false (by omega)
 have hK:=iB B akA.1 amy;rw[hsrc,anm (m:=m+1) (r:=L.length-j) (by omega),List.append_nil]at hK
 repeat'((conv=>whnf);first|apply And.intro|exact bA (by subst_vars;assumption)|intro h9)
 all_goals(try(conv=>whnf))<;>(subst_vars;try first|(apply Tk.mk;kernel_rfl)|exact⟨ah rfl⟩|exact⟨rfl⟩|exact⟨trivial⟩|rfl|contradiction|(apply Ob.mk;(try simp only[ag,ak,aa.ae])<;>(try dsimp only)<;>omega))
 all_goals try first|trivial
 all_goals exact hK
end
end Go.Proofs.Ytccnimhgjjnmoaa
end
