/-
  Texts of the claims: Yka14z. No condition: lemmas and contracts.
-/
import Derived.Test.YtccnimhgjjnmoaaSya1z
import Derived.Test.YtccnimhgjjnmoaaSya2z
import Derived.Test.YtccnimhgjjnmoaaSya3z
import Derived.Test.YtccnimhgjjnmoaaSya4z
import Derived.Test.YtccnimhgjjnmoaaSya5z
import Derived.Test.YtccnimhgjjnmoaaPla6z
import Derived.Test.YtccnimhgjjnmoaaYka7z
import Derived.Test.YtccnimhgjjnmoaaYka8z
import Derived.Test.YtccnimhgjjnmoaaYka9z
import Derived.Test.YtccnimhgjjnmoaaYka10z
import Derived.Test.YtccnimhgjjnmoaaYka11z
import Derived.Test.YtccnimhgjjnmoaaYka12z
import Derived.Test.YtccnimhgjjnmoaaYka13z
set_option linter.all false
set_option maxRecDepth 100000
set_option maxHeartbeats 40000000
section
namespace Go.Proofs.Ytccnimhgjjnmoaa
open Go Go.Sy Go.dg
variable {Γ:bn}
attribute [local irreducible] ck wN e7 cw swp x8
section
variable (L:List Bk) (W:List Int) (len:Nat)
def apa (n:Nat) (cl:Cl):Prop:=∀ (za zm zb:Int) (a m b:Nat) (A:List Int) (tm:Sl) (fr:List Sl) (Kc:Tm->St->Prop),za=a->zm=m->zb=b->a<m->m<b->b<=len->b-a<=2^n->A.length=len->len<=1000000->amY W A->kM (cw W) a m A->kM (cw W) m b A->alm 4 tm fr->
 (∀ B,hG a b A B->kM (cw W) a b B->Kc (.bF []) ⟨tm,fr,[.arr 67 kK L false false,.arr 3 kI W true true,.box true [.sl 1 [] 0 W.length],.arr 3 kI B true true]⟩)->cl (bo Try.f129) [.a (.sl 3 [] 0 len),.a (vI za),.a (vI zm),.a (vI zb),.a (.fn 102 [2])] ⟨tm,fr,[.arr 67 kK L false false,.arr 3 kI W true true,.box true [.sl 1 [] 0 W.length],.arr 3 kI A true true]⟩ Kc
variable {L} {W} {len}
theorem aor {i j:Nat} (h:i<j):i<=(i+j) / 2/\(i+j) / 2<j:=by omega
theorem at3 (n:Nat) (cl:Cl) (rd:Rd) (hR:arF L W len cl) (IH:∀ k,n=k+1->apa L W len k cl):apa L W len n (GG od (jD od cl rd none)):=by
 intro za zm zb a m b A tm fr Kc atA ayo atB azs hmb Hg asf hA hlen hV h1 h2 hfr hK;obtain rfl:=atA;obtain rfl:=ayo;obtain rfl:=atB;replace hA:=And.intro hA trivial;by_cases c1:m<=a+1
 ·have e1:((m:Int)-(a:Int)==1)=true:=by rw[beq_iff_eq];omega
  repeat'((conv=>whnf);first|apply And.intro|exact bA (by subst_vars;assumption)|intro h9)
  all_goals(try(conv=>whnf))<;>(subst_vars;try first|(apply Tk.mk;kernel_rfl)|exact⟨ah rfl⟩|exact⟨rfl⟩|exact⟨trivial⟩|rfl|contradiction|(apply Ob.mk;(try simp only[ag,ak,aa.ae])<;>(try dsimp only)<;>omega))
  refine⟨Nat×Nat,fun x=>(m<=x.1/\x.1<=x.2/\x.2<=b)/\(∀ q,m<=q->q<x.1->cw W (gA A q)<cw W (gA A a))/\∀ q,x.2<=q->q<b->cw W (gA A a)<=cw W (gA A q),fun|(i,j)=>⟨aI 220 [0,1,2,3,4,10,11] [.a (.sl 3 [] 0 len),.a (vI a),.a (vI m),.a (vI b),.a (.fn 102 [2]),.a (vI i),.a (vI j)],tm::fr,[.arr 67 kK L false false,.arr 3 kI W true true,.box true [.sl 1 [] 0 W.length],.arr 3 kI A true true]⟩,fun x=>x.2-x.1,(m,b),[0,1,2,3],⟨⟨Nat.le_refl _,by dsimp only;omega,Nat.le_refl _⟩,(fun q q1 q2=>by dsimp only at*;omega),(fun q q1 q2=>by dsimp only at*;omega)⟩,?_,?_⟩
  ·repeat'((conv=>whnf);(first|apply And.intro|intro _))
   all_goals first|rfl|trivial|exact ah rfl|exact⟨rfl,rfl,rfl⟩|exact⟨rfl,rfl⟩|exact hfr.hd _ _ _ (by decide) (ah rfl) (ah rfl)|exact hfr.tl _ _ _ (by decide) (ah rfl) (ah rfl)|(rename_i r9 bx;revert r9;decide)
  rintro⟨i,j⟩ ⟨⟨l1,l2,l3⟩,hlo,hhi⟩;dsimp only at l1 l2 l3 hlo hhi;by_cases hij:i<j
  ·have p0:decide ((i:Int)<(j:Int))=true:=decide_eq_true (by omega)
   have hh:=Sg i j;obtain⟨h,akR⟩:∃ h,h=(i+j) / 2:=⟨_,rfl⟩;have Nq:i<=h/\h<j:=by have:=aor hij;omega
   rw[<-akR]at hh;clear akR;have v1:=hV.at (k:=h) (by omega)
   have v2:=hV.at (k:=a) (by omega)
   rw[<-hh]at v1;have w1:=hV.wt (ca A (((i:Int)+(j:Int)) / 2^Int.toNat 1));have w2:=hV.wt (ca A a);have x1:0+Int.toNat (((i:Int)+(j:Int)) / 2^Int.toNat 1)<A.length:=by rw[hh];omega
   have x2:0+Int.toNat (a:Int)<A.length:=by omega
   have r1:0<=((i:Int)+(j:Int)) / 2^Int.toNat 1/\((i:Int)+(j:Int)) / 2^Int.toNat 1<=1000000:=by rw[hh];omega
   have eh:ca A (((i:Int)+(j:Int)) / 2^Int.toNat 1)=gA A h:=by rw[hh,kX]
   by_cases hlt:cw W (gA A h)<cw W (gA A a)
   ·have q1:decide (cw W (ca A (((i:Int)+(j:Int)) / 2^Int.toNat 1))-cw W (ca A a)<0)=true:=decide_eq_true (by rw[eh,kX];omega)
    have hs:((i:Int)+(j:Int)) / 2^Int.toNat 1+1=((h+1:Nat):Int):=by rw[hh];omega
    have au8:∀ q,m<=q->q<h+1->cw W (gA A q)<cw W (gA A a):=fun q q1 q2=>by
     have:=h2.le (i:=q) (j:=h) (by omega) (by omega) (by omega);omega
    repeat'((conv=>whnf);first|apply And.intro|exact bA (by subst_vars;assumption)|intro h9)
    all_goals(try(conv=>whnf))<;>(subst_vars;try first|(apply Tk.mk;kernel_rfl)|exact⟨ah rfl⟩|exact⟨rfl⟩|exact⟨trivial⟩|rfl|contradiction|(apply Ob.mk;(try simp only[ag,ak,aa.ae])<;>(try dsimp only)<;>omega))
    all_goals try first|exact⟨x1⟩|exact⟨x2⟩|exact⟨v1⟩|exact⟨v2⟩|exact⟨w1⟩|exact⟨w2⟩|exact⟨show(1:Int)<=((64:Nat):Int) by decide⟩
    refine⟨(h+1,j),[0,1,2,3],⟨⟨by dsimp only;omega,by dsimp only;omega,l3⟩,au8,hhi⟩,?_,by show j-(h+1)<j-i;omega⟩
    repeat'((conv=>whnf);(first|apply And.intro|intro _))
    all_goals first|rfl|trivial|exact ah rfl|exact⟨rfl,rfl,rfl⟩|exact⟨rfl,rfl⟩|exact hfr.hd _ _ _ (by decide) (ah rfl) (ah rfl)|exact hfr.tl _ _ _ (by decide) (ah rfl) (ah rfl)|(rename_i r9 bx;revert r9;decide)|exact hs
   have q1:decide (cw W (ca A (((i:Int)+(j:Int)) / 2^Int.toNat 1))-cw W (ca A a)<0)=false:=decide_eq_false (by rw[eh,kX];omega)
   have au7:∀ q,h<=q->q<b->cw W (gA A a)<=cw W (gA A q):=fun q q1 q2=>by
    have:=h2.le (i:=h) (j:=q) (by omega) (by omega) (by omega);omega
   repeat'((conv=>whnf);first|apply And.intro|exact bA (by subst_vars;assumption)|intro h9)
   all_goals(try(conv=>whnf))<;>(subst_vars;try first|(apply Tk.mk;kernel_rfl)|exact⟨ah rfl⟩|exact⟨rfl⟩|exact⟨trivial⟩|rfl|contradiction|(apply Ob.mk;(try simp only[ag,ak,aa.ae])<;>(try dsimp only)<;>omega))
   all_goals try first|exact⟨x1⟩|exact⟨x2⟩|exact⟨v1⟩|exact⟨v2⟩|exact⟨w1⟩|exact⟨w2⟩|exact⟨show(1:Int)<=((64:Nat):Int) by decide⟩
   refine⟨(i,h),[0,1,2,3],⟨⟨l1,by dsimp only;omega,by dsimp only;omega⟩,hlo,au7⟩,?_,by show h-i<j-i;omega⟩
   repeat'((conv=>whnf);(first|apply And.intro|intro _))
   all_goals first|rfl|trivial|exact ah rfl|exact⟨rfl,rfl,rfl⟩|exact⟨rfl,rfl⟩|exact hfr.hd _ _ _ (by decide) (ah rfl) (ah rfl)|exact hfr.tl _ _ _ (by decide) (ah rfl) (ah rfl)|(rename_i r9 bx;revert r9;decide)|exact hh
  have p0:decide ((i:Int)<(j:Int))=false:=decide_eq_false (by omega)
  have au6:=alY.start (a:=a) (i:=i) (by omega) A
  repeat'((conv=>whnf);first|apply And.intro|exact bA (by subst_vars;assumption)|intro h9)
  all_goals(try(conv=>whnf))<;>(subst_vars;try first|(apply Tk.mk;kernel_rfl)|exact⟨ah rfl⟩|exact⟨rfl⟩|exact⟨trivial⟩|rfl|contradiction|(apply Ob.mk;(try simp only[ag,ak,aa.ae])<;>(try dsimp only)<;>omega))
  refine⟨Nat×List Int,fun x=>alY a i A x.1 x.2,fun|(k,B)=>⟨aI 220 [0,1,2,3,4,10,13] [.a (.sl 3 [] 0 len),.a (vI a),.a (vI m),.a (vI b),.a (.fn 102 [2]),.a (vI i),.a (vI k)],tm::fr,[.arr 67 kK L false false,.arr 3 kI W true true,.box true [.sl 1 [] 0 W.length],.arr 3 kI B true true]⟩,fun x=>i-x.1,(a,A),[0,1,2,3],au6,?_,?_⟩
  ·repeat'((conv=>whnf);(first|apply And.intro|intro _))
   all_goals first|rfl|trivial|exact ah rfl|exact⟨rfl,rfl,rfl⟩|exact⟨rfl,rfl⟩|exact hfr.hd _ _ _ (by decide) (ah rfl) (ah rfl)|exact hfr.tl _ _ _ (by decide) (ah rfl) (ah rfl)|(rename_i r9 bx;revert r9;decide)
  rintro⟨k,B⟩ hC;dsimp only at hC;obtain⟨k1,k2⟩:=hC.le;have hB:=And.intro (hC.pin.len.trans hA.1) trivial;by_cases hk:k+1<i
  ·have p1:decide ((k:Int)<(i:Int)-1)=true:=decide_eq_true (by omega)
   have ab5:=hC.step (by omega) hk
   have ek:((k:Int)+1)=((k+1:Nat):Int):=by omega
   have hst:(B.set (0+Int.toNat (k:Int)) (ca B ((k:Int)+1))).set (0+Int.toNat ((k:Int)+1)) (ca B k)=swp B k (k+1):=by
    rw[ek,kX,kX,Nat.zero_add,Nat.zero_add,Int.toNat_natCast,Int.toNat_natCast];exact aoB B k (k+1)
   have x1:0+Int.toNat (k:Int)<B.length:=by omega
   have x2:0+Int.toNat ((k:Int)+1)<B.length:=by omega
   repeat'((conv=>whnf);first|apply And.intro|exact bA (by subst_vars;assumption)|intro h9)
   all_goals(try(conv=>whnf))<;>(subst_vars;try first|(apply Tk.mk;kernel_rfl)|exact⟨ah rfl⟩|exact⟨rfl⟩|exact⟨trivial⟩|rfl|contradiction|(apply Ob.mk;(try simp only[ag,ak,aa.ae])<;>(try dsimp only)<;>omega))
   all_goals try first|trivial|exact⟨x1⟩|exact⟨x2⟩|exact⟨show 0+Int.toNat ((k:Int)+1)<(B.set (0+Int.toNat (k:Int)) (ca B ((k:Int)+1))).length by rw[List.length_set];omega⟩
   all_goals
    refine⟨(k+1,swp B k (k+1)),[0,1,2,3],ab5,?_,by show i-(k+1)<i-k;omega⟩
    repeat'((conv=>whnf);(first|apply And.intro|intro _))
    all_goals first|rfl|trivial|exact ah rfl|exact⟨rfl,rfl,rfl⟩|exact⟨rfl,rfl⟩|exact hfr.hd _ _ _ (by decide) (ah rfl) (ah rfl)|exact hfr.tl _ _ _ (by decide) (ah rfl) (ah rfl)|(rename_i r9 bx;revert r9;decide)|exact⟨rfl,rfl,hst⟩|exact hst|exact ek
  have p1:decide ((k:Int)<(i:Int)-1)=false:=decide_eq_false (by omega)
  have afI:=hK B (hC.pin.wide (Nat.le_refl _) (by omega)) (hC.done (b:=b) (by omega) (by omega) (by omega) (h2.sub (by omega) (Nat.le_refl _)) (fun q q1 q2=>hlo q (by omega) q2) (fun q q1 q2=>hhi q (by omega) q2))
  repeat'((conv=>whnf);first|apply And.intro|exact bA (by subst_vars;assumption)|intro h9)
  all_goals(try(conv=>whnf))<;>(subst_vars;try first|(apply Tk.mk;kernel_rfl)|exact⟨ah rfl⟩|exact⟨rfl⟩|exact⟨trivial⟩|rfl|contradiction|(apply Ob.mk;(try simp only[ag,ak,aa.ae])<;>(try dsimp only)<;>omega))
  all_goals try first|trivial
  all_goals exact afI
 have e1:((m:Int)-(a:Int)==1)=false:=by rw[beq_eq_false_iff_ne];omega
 by_cases c2:b<=m+1
 ·have e2:((b:Int)-(m:Int)==1)=true:=by rw[beq_iff_eq];omega
  repeat'((conv=>whnf);first|apply And.intro|exact bA (by subst_vars;assumption)|intro h9)
  all_goals(try(conv=>whnf))<;>(subst_vars;try first|(apply Tk.mk;kernel_rfl)|exact⟨ah rfl⟩|exact⟨rfl⟩|exact⟨trivial⟩|rfl|contradiction|(apply Ob.mk;(try simp only[ag,ak,aa.ae])<;>(try dsimp only)<;>omega))
  refine⟨Nat×Nat,fun x=>(a<=x.1/\x.1<=x.2/\x.2<=m)/\(∀ q,a<=q->q<x.1->cw W (gA A q)<=cw W (gA A m))/\∀ q,x.2<=q->q<m->cw W (gA A m)<cw W (gA A q),fun|(i,j)=>⟨aI 220 [0,1,2,3,4,14,15] [.a (.sl 3 [] 0 len),.a (vI a),.a (vI m),.a (vI b),.a (.fn 102 [2]),.a (vI i),.a (vI j)],tm::fr,[.arr 67 kK L false false,.arr 3 kI W true true,.box true [.sl 1 [] 0 W.length],.arr 3 kI A true true]⟩,fun x=>x.2-x.1,(a,m),[0,1,2,3],⟨⟨Nat.le_refl _,by dsimp only;omega,Nat.le_refl _⟩,(fun q q1 q2=>by dsimp only at*;omega),(fun q q1 q2=>by dsimp only at*;omega)⟩,?_,?_⟩
  ·repeat'((conv=>whnf);(first|apply And.intro|intro _))
   all_goals first|rfl|trivial|exact ah rfl|exact⟨rfl,rfl,rfl⟩|exact⟨rfl,rfl⟩|exact hfr.hd _ _ _ (by decide) (ah rfl) (ah rfl)|exact hfr.tl _ _ _ (by decide) (ah rfl) (ah rfl)|(rename_i r9 bx;revert r9;decide)
  rintro⟨i,j⟩ ⟨⟨l1,l2,l3⟩,hlo,hhi⟩;dsimp only at l1 l2 l3 hlo hhi;by_cases hij:i<j
  ·have p0:decide ((i:Int)<(j:Int))=true:=decide_eq_true (by omega)
   have hh:=Sg i j;obtain⟨h,akR⟩:∃ h,h=(i+j) / 2:=⟨_,rfl⟩;have Nq:i<=h/\h<j:=by have:=aor hij;omega
   rw[<-akR]at hh;clear akR;have v1:=hV.at (k:=h) (by omega)
   have v2:=hV.at (k:=m) (by omega)
   rw[<-hh]at v1;have w1:=hV.wt (ca A (((i:Int)+(j:Int)) / 2^Int.toNat 1));have w2:=hV.wt (ca A m);have x1:0+Int.toNat (((i:Int)+(j:Int)) / 2^Int.toNat 1)<A.length:=by rw[hh];omega
   have x2:0+Int.toNat (m:Int)<A.length:=by omega
   have r1:0<=((i:Int)+(j:Int)) / 2^Int.toNat 1/\((i:Int)+(j:Int)) / 2^Int.toNat 1<=1000000:=by rw[hh];omega
   have eh:ca A (((i:Int)+(j:Int)) / 2^Int.toNat 1)=gA A h:=by rw[hh,kX]
   by_cases hlt:cw W (gA A m)<cw W (gA A h)
   ·have q1:(!decide (cw W (ca A m)-cw W (ca A (((i:Int)+(j:Int)) / 2^Int.toNat 1))<0))=false:=by rw[decide_eq_true (by rw[eh,kX];omega)];rfl
    have au7:∀ q,h<=q->q<m->cw W (gA A m)<cw W (gA A q):=fun q q1 q2=>by
     have:=h1.le (i:=h) (j:=q) (by omega) (by omega) (by omega);omega
    repeat'((conv=>whnf);first|apply And.intro|exact bA (by subst_vars;assumption)|intro h9)
    all_goals(try(conv=>whnf))<;>(subst_vars;try first|(apply Tk.mk;kernel_rfl)|exact⟨ah rfl⟩|exact⟨rfl⟩|exact⟨trivial⟩|rfl|contradiction|(apply Ob.mk;(try simp only[ag,ak,aa.ae])<;>(try dsimp only)<;>omega))
    all_goals try first|exact⟨x1⟩|exact⟨x2⟩|exact⟨v1⟩|exact⟨v2⟩|exact⟨w1⟩|exact⟨w2⟩|exact⟨show(1:Int)<=((64:Nat):Int) by decide⟩
    refine⟨(i,h),[0,1,2,3],⟨⟨l1,by dsimp only;omega,by dsimp only;omega⟩,hlo,au7⟩,?_,by show h-i<j-i;omega⟩
    repeat'((conv=>whnf);(first|apply And.intro|intro _))
    all_goals first|rfl|trivial|exact ah rfl|exact⟨rfl,rfl,rfl⟩|exact⟨rfl,rfl⟩|exact hfr.hd _ _ _ (by decide) (ah rfl) (ah rfl)|exact hfr.tl _ _ _ (by decide) (ah rfl) (ah rfl)|(rename_i r9 bx;revert r9;decide)|exact hh
   have q1:(!decide (cw W (ca A m)-cw W (ca A (((i:Int)+(j:Int)) / 2^Int.toNat 1))<0))=true:=by rw[decide_eq_false (by rw[eh,kX];omega)];rfl
   have hs:((i:Int)+(j:Int)) / 2^Int.toNat 1+1=((h+1:Nat):Int):=by rw[hh];omega
   have au8:∀ q,a<=q->q<h+1->cw W (gA A q)<=cw W (gA A m):=fun q q1 q2=>by
    have:=h1.le (i:=q) (j:=h) (by omega) (by omega) (by omega);omega
   repeat'((conv=>whnf);first|apply And.intro|exact bA (by subst_vars;assumption)|intro h9)
   all_goals(try(conv=>whnf))<;>(subst_vars;try first|(apply Tk.mk;kernel_rfl)|exact⟨ah rfl⟩|exact⟨rfl⟩|exact⟨trivial⟩|rfl|contradiction|(apply Ob.mk;(try simp only[ag,ak,aa.ae])<;>(try dsimp only)<;>omega))
   all_goals try first|exact⟨x1⟩|exact⟨x2⟩|exact⟨v1⟩|exact⟨v2⟩|exact⟨w1⟩|exact⟨w2⟩|exact⟨show(1:Int)<=((64:Nat):Int) by decide⟩
   refine⟨(h+1,j),[0,1,2,3],⟨⟨by dsimp only;omega,by dsimp only;omega,l3⟩,au8,hhi⟩,?_,by show j-(h+1)<j-i;omega⟩
   repeat'((conv=>whnf);(first|apply And.intro|intro _))
   all_goals first|rfl|trivial|exact ah rfl|exact⟨rfl,rfl,rfl⟩|exact⟨rfl,rfl⟩|exact hfr.hd _ _ _ (by decide) (ah rfl) (ah rfl)|exact hfr.tl _ _ _ (by decide) (ah rfl) (ah rfl)|(rename_i r9 bx;revert r9;decide)|exact hs
  have p0:decide ((i:Int)<(j:Int))=false:=decide_eq_false (by omega)
  have au6:=alX.start (m:=m) (i:=i) (by omega) A
  repeat'((conv=>whnf);first|apply And.intro|exact bA (by subst_vars;assumption)|intro h9)
  all_goals(try(conv=>whnf))<;>(subst_vars;try first|(apply Tk.mk;kernel_rfl)|exact⟨ah rfl⟩|exact⟨rfl⟩|exact⟨trivial⟩|rfl|contradiction|(apply Ob.mk;(try simp only[ag,ak,aa.ae])<;>(try dsimp only)<;>omega))
  refine⟨Nat×List Int,fun x=>alX m i A x.1 x.2,fun|(k,B)=>⟨aI 220 [0,1,2,3,4,14,17] [.a (.sl 3 [] 0 len),.a (vI a),.a (vI m),.a (vI b),.a (.fn 102 [2]),.a (vI i),.a (vI k)],tm::fr,[.arr 67 kK L false false,.arr 3 kI W true true,.box true [.sl 1 [] 0 W.length],.arr 3 kI B true true]⟩,fun x=>x.1,(m,A),[0,1,2,3],au6,?_,?_⟩
  ·repeat'((conv=>whnf);(first|apply And.intro|intro _))
   all_goals first|rfl|trivial|exact ah rfl|exact⟨rfl,rfl,rfl⟩|exact⟨rfl,rfl⟩|exact hfr.hd _ _ _ (by decide) (ah rfl) (ah rfl)|exact hfr.tl _ _ _ (by decide) (ah rfl) (ah rfl)|(rename_i r9 bx;revert r9;decide)
  rintro⟨k,B⟩ hC;dsimp only at hC;obtain⟨k1,k2⟩:=hC.le;have hB:=And.intro (hC.pin.len.trans hA.1) trivial;by_cases hk:i<k
  ·have p1:decide ((k:Int)>(i:Int))=true:=decide_eq_true (by omega)
   have ab5:=hC.step (by omega) hk
   have ek:((k:Int)-1)=((k-1:Nat):Int):=by omega
   have hst:(B.set (0+Int.toNat (k:Int)) (ca B ((k:Int)-1))).set (0+Int.toNat ((k:Int)-1)) (ca B k)=swp B k (k-1):=by
    rw[ek,kX,kX,Nat.zero_add,Nat.zero_add,Int.toNat_natCast,Int.toNat_natCast];exact aoB B k (k-1)
   have x1:0+Int.toNat (k:Int)<B.length:=by omega
   have x2:0+Int.toNat ((k:Int)-1)<B.length:=by omega
   repeat'((conv=>whnf);first|apply And.intro|exact bA (by subst_vars;assumption)|intro h9)
   all_goals(try(conv=>whnf))<;>(subst_vars;try first|(apply Tk.mk;kernel_rfl)|exact⟨ah rfl⟩|exact⟨rfl⟩|exact⟨trivial⟩|rfl|contradiction|(apply Ob.mk;(try simp only[ag,ak,aa.ae])<;>(try dsimp only)<;>omega))
   all_goals try first|trivial|exact⟨x1⟩|exact⟨x2⟩|exact⟨show 0+Int.toNat ((k:Int)-1)<(B.set (0+Int.toNat (k:Int)) (ca B ((k:Int)-1))).length by rw[List.length_set];omega⟩
   all_goals
    refine⟨(k-1,swp B k (k-1)),[0,1,2,3],ab5,?_,by show k-1<k;omega⟩
    repeat'((conv=>whnf);(first|apply And.intro|intro _))
    all_goals first|rfl|trivial|exact ah rfl|exact⟨rfl,rfl,rfl⟩|exact⟨rfl,rfl⟩|exact hfr.hd _ _ _ (by decide) (ah rfl) (ah rfl)|exact hfr.tl _ _ _ (by decide) (ah rfl) (ah rfl)|(rename_i r9 bx;revert r9;decide)|exact⟨rfl,rfl,hst⟩|exact hst|exact ek
  have p1:decide ((k:Int)>(i:Int))=false:=decide_eq_false (by omega)
  have afI:=hK B (hC.pin.wide (by omega) (by omega)) (kM.sub (hC.done (a:=a) l1 (by omega) h1 hlo (fun q q1 q2=>hhi q (by omega) q2)) (Nat.le_refl _) (by omega))
  repeat'((conv=>whnf);first|apply And.intro|exact bA (by subst_vars;assumption)|intro h9)
  all_goals(try(conv=>whnf))<;>(subst_vars;try first|(apply Tk.mk;kernel_rfl)|exact⟨ah rfl⟩|exact⟨rfl⟩|exact⟨trivial⟩|rfl|contradiction|(apply Ob.mk;(try simp only[ag,ak,aa.ae])<;>(try dsimp only)<;>omega))
  all_goals try first|trivial
  all_goals exact afI
 have e2:((b:Int)-(m:Int)==1)=false:=by rw[beq_eq_false_iff_ne];omega
 have y6:=Sg a b;obtain⟨d,hd⟩:∃ d,d=(a+b) / 2:=⟨_,rfl⟩;rw[<-hd]at y6;have aya:2*d<=a+b/\a+b<=2*d+1:=by omega
 clear hd;have r0:0<=((a:Int)+(b:Int)) / 2^Int.toNat 1/\((a:Int)+(b:Int)) / 2^Int.toNat 1<=1000000:=by rw[y6];omega
 repeat'((conv=>whnf);first|apply And.intro|exact bA (by subst_vars;assumption)|intro h9)
 all_goals(try(conv=>whnf))<;>(subst_vars;try first|(apply Tk.mk;kernel_rfl)|exact⟨ah rfl⟩|exact⟨rfl⟩|exact⟨trivial⟩|rfl|contradiction|(apply Ob.mk;(try simp only[ag,ak,aa.ae])<;>(try dsimp only)<;>omega))
 all_goals try first|exact⟨show(1:Int)<=((64:Nat):Int) by decide⟩
 refine⟨Nat×Nat,fun x=>arI a m b d x.1 x.2,fun|(s0,r0)=>⟨aI 220 [0,1,2,3,4,18,19,20,21] [.a (.sl 3 [] 0 len),.a (vI a),.a (vI m),.a (vI b),.a (.fn 102 [2]),.a (vI d),.a (vI ((d:Int)+(m:Int))),.a (vI s0),.a (vI r0)],tm::fr,[.arr 67 kK L false false,.arr 3 kI W true true,.box true [.sl 1 [] 0 W.length],.arr 3 kI A true true]⟩,?_,?_⟩
 ·by_cases c3:d<m
  ·have e3:decide ((m:Int)>((a:Int)+(b:Int)) / 2^Int.toNat 1)=true:=decide_eq_true (by rw[y6];omega)
   have es:((a:Int)+(b:Int)) / 2^Int.toNat 1+(m:Int)-(b:Int)=((d+m-b:Nat):Int):=by rw[y6];omega
   have en:((a:Int)+(b:Int)) / 2^Int.toNat 1+(m:Int)=(d:Int)+(m:Int):=by rw[y6]
   repeat'((conv=>whnf);first|apply And.intro|exact bA (by subst_vars;assumption)|intro h9)
   all_goals(try(conv=>whnf))<;>(subst_vars;try first|(apply Tk.mk;kernel_rfl)|exact⟨ah rfl⟩|exact⟨rfl⟩|exact⟨trivial⟩|rfl|contradiction|(apply Ob.mk;(try simp only[ag,ak,aa.ae])<;>(try dsimp only)<;>omega))
   refine⟨(d+m-b,d),[0,1,2,3],⟨⟨azs,hmb⟩,aya,.inr ⟨c3,by dsimp only;omega,rfl⟩⟩,?_⟩
   repeat'((conv=>whnf);(first|apply And.intro|intro _))
   all_goals first|rfl|trivial|exact ah rfl|exact⟨rfl,rfl,rfl⟩|exact⟨rfl,rfl⟩|exact hfr.hd _ _ _ (by decide) (ah rfl) (ah rfl)|exact hfr.tl _ _ _ (by decide) (ah rfl) (ah rfl)|(rename_i r9 bx;revert r9;decide)|exact y6|exact en|exact es
  have e3:decide ((m:Int)>((a:Int)+(b:Int)) / 2^Int.toNat 1)=false:=decide_eq_false (by rw[y6];omega)
  have en:((a:Int)+(b:Int)) / 2^Int.toNat 1+(m:Int)=(d:Int)+(m:Int):=by rw[y6]
  repeat'((conv=>whnf);first|apply And.intro|exact bA (by subst_vars;assumption)|intro h9)
  all_goals(try(conv=>whnf))<;>(subst_vars;try first|(apply Tk.mk;kernel_rfl)|exact⟨ah rfl⟩|exact⟨rfl⟩|exact⟨trivial⟩|rfl|contradiction|(apply Ob.mk;(try simp only[ag,ak,aa.ae])<;>(try dsimp only)<;>omega))
  refine⟨(a,m),[0,1,2,3],⟨⟨azs,hmb⟩,aya,.inl ⟨by omega,rfl,rfl⟩⟩,?_⟩
  repeat'((conv=>whnf);(first|apply And.intro|intro _))
  all_goals first|rfl|trivial|exact ah rfl|exact⟨rfl,rfl,rfl⟩|exact⟨rfl,rfl⟩|exact hfr.hd _ _ _ (by decide) (ah rfl) (ah rfl)|exact hfr.tl _ _ _ (by decide) (ah rfl) (ah rfl)|(rename_i r9 bx;revert r9;decide)|exact y6|exact en
 clear r0 y6;rintro⟨s0,r0⟩ ha;dsimp only at ha;have jk:s0<=r0/\r0<=d/\r0<=m/\a<=s0/\d+m<=b+s0:=by rcases ha.bnd with⟨b1,b2,b3⟩|⟨b1,b2,b3⟩<;>omega
 repeat'((conv=>whnf);first|apply And.intro|exact bA (by subst_vars;assumption)|intro h9)
 all_goals(try(conv=>whnf))<;>(subst_vars;try first|(apply Tk.mk;kernel_rfl)|exact⟨ah rfl⟩|exact⟨rfl⟩|exact⟨trivial⟩|rfl|contradiction|(apply Ob.mk;(try simp only[ag,ak,aa.ae])<;>(try dsimp only)<;>omega))
 refine⟨Nat×Nat,fun x=>aln (cw W) (d+m) s0 r0 A x.1 x.2,fun|(s,r)=>⟨aI 220 [0,1,2,3,4,18,19,20,21,22] [.a (.sl 3 [] 0 len),.a (vI a),.a (vI m),.a (vI b),.a (.fn 102 [2]),.a (vI d),.a (vI ((d:Int)+(m:Int))),.a (vI s),.a (vI r),.a (vI ((d:Int)+(m:Int)-1))],tm::fr,[.arr 67 kK L false false,.arr 3 kI W true true,.box true [.sl 1 [] 0 W.length],.arr 3 kI A true true]⟩,fun x=>x.2-x.1,(s0,r0),[0,1,2,3],aln.start jk.1,?_,?_⟩
 ·repeat'((conv=>whnf);(first|apply And.intro|intro _))
  all_goals first|rfl|trivial|exact ah rfl|exact⟨rfl,rfl,rfl⟩|exact⟨rfl,rfl⟩|exact hfr.hd _ _ _ (by decide) (ah rfl) (ah rfl)|exact hfr.tl _ _ _ (by decide) (ah rfl) (ah rfl)|(rename_i r9 bx;revert r9;decide)
 rintro⟨s,r⟩ hS;dsimp only at hS;obtain⟨l1,l2,l3⟩:=hS.le;by_cases av0:s<r
 ·have p0:decide ((s:Int)<(r:Int))=true:=decide_eq_true (by omega)
  have hh:=Sg s r;obtain⟨h,akR⟩:∃ h,h=(s+r) / 2:=⟨_,rfl⟩;have Nq:s<=h/\h<r:=by have:=aor av0;omega
  rw[<-akR]at hh;clear akR;have alS:(d:Int)+(m:Int)-1-((s:Int)+(r:Int)) / 2^Int.toNat 1=((d+m-1-h:Nat):Int):=by rw[hh];omega
  have v1:=hV.at (k:=h) (by omega)
  have v2:=hV.at (k:=d+m-1-h) (by omega)
  rw[<-hh]at v1;rw[<-alS]at v2;have w1:=hV.wt (ca A (((s:Int)+(r:Int)) / 2^Int.toNat 1));have w2:=hV.wt (ca A ((d:Int)+(m:Int)-1-((s:Int)+(r:Int)) / 2^Int.toNat 1));have x1:0+Int.toNat (((s:Int)+(r:Int)) / 2^Int.toNat 1)<A.length:=by rw[hh];omega
  have x2:0+Int.toNat ((d:Int)+(m:Int)-1-((s:Int)+(r:Int)) / 2^Int.toNat 1)<A.length:=by rw[alS];omega
  have r1:0<=((s:Int)+(r:Int)) / 2^Int.toNat 1/\((s:Int)+(r:Int)) / 2^Int.toNat 1<=1000000:=by rw[hh];omega
  have eh:ca A (((s:Int)+(r:Int)) / 2^Int.toNat 1)=gA A h:=by rw[hh,kX]
  have ep:ca A ((d:Int)+(m:Int)-1-((s:Int)+(r:Int)) / 2^Int.toNat 1)=gA A (d+m-1-h):=by rw[alS,kX]
  by_cases hlt:cw W (gA A (d+m-1-h))<cw W (gA A h)
  ·have q1:(!decide (cw W (ca A ((d:Int)+(m:Int)-1-((s:Int)+(r:Int)) / 2^Int.toNat 1))-cw W (ca A (((s:Int)+(r:Int)) / 2^Int.toNat 1))<0))=false:=by rw[decide_eq_true (by rw[eh,ep];omega)];rfl
   have ab5:=hS.dn ha h1 h2 (by omega) hlt
   repeat'((conv=>whnf);first|apply And.intro|exact bA (by subst_vars;assumption)|intro h9)
   all_goals(try(conv=>whnf))<;>(subst_vars;try first|(apply Tk.mk;kernel_rfl)|exact⟨ah rfl⟩|exact⟨rfl⟩|exact⟨trivial⟩|rfl|contradiction|(apply Ob.mk;(try simp only[ag,ak,aa.ae])<;>(try dsimp only)<;>omega))
   all_goals try first|exact⟨x1⟩|exact⟨x2⟩|exact⟨v1⟩|exact⟨v2⟩|exact⟨w1⟩|exact⟨w2⟩|exact⟨show(1:Int)<=((64:Nat):Int) by decide⟩
   refine⟨(s,h),[0,1,2,3],ab5,?_,by show h-s<r-s;omega⟩
   repeat'((conv=>whnf);(first|apply And.intro|intro _))
   all_goals first|rfl|trivial|exact ah rfl|exact⟨rfl,rfl,rfl⟩|exact⟨rfl,rfl⟩|exact hfr.hd _ _ _ (by decide) (ah rfl) (ah rfl)|exact hfr.tl _ _ _ (by decide) (ah rfl) (ah rfl)|(rename_i r9 bx;revert r9;decide)|exact hh
  have q1:(!decide (cw W (ca A ((d:Int)+(m:Int)-1-((s:Int)+(r:Int)) / 2^Int.toNat 1))-cw W (ca A (((s:Int)+(r:Int)) / 2^Int.toNat 1))<0))=true:=by rw[decide_eq_false (by rw[eh,ep];omega)];rfl
  have aj5:((s:Int)+(r:Int)) / 2^Int.toNat 1+1=((h+1:Nat):Int):=by rw[hh];omega
  have ab5:=hS.up ha h1 h2 (c:=h) (by omega) (by omega)
  repeat'((conv=>whnf);first|apply And.intro|exact bA (by subst_vars;assumption)|intro h9)
  all_goals(try(conv=>whnf))<;>(subst_vars;try first|(apply Tk.mk;kernel_rfl)|exact⟨ah rfl⟩|exact⟨rfl⟩|exact⟨trivial⟩|rfl|contradiction|(apply Ob.mk;(try simp only[ag,ak,aa.ae])<;>(try dsimp only)<;>omega))
  all_goals try first|exact⟨x1⟩|exact⟨x2⟩|exact⟨v1⟩|exact⟨v2⟩|exact⟨w1⟩|exact⟨w2⟩|exact⟨show(1:Int)<=((64:Nat):Int) by decide⟩
  refine⟨(h+1,r),[0,1,2,3],ab5,?_,by show r-(h+1)<r-s;omega⟩
  repeat'((conv=>whnf);(first|apply And.intro|intro _))
  all_goals first|rfl|trivial|exact ah rfl|exact⟨rfl,rfl,rfl⟩|exact⟨rfl,rfl⟩|exact hfr.hd _ _ _ (by decide) (ah rfl) (ah rfl)|exact hfr.tl _ _ _ (by decide) (ah rfl) (ah rfl)|(rename_i r9 bx;revert r9;decide)|exact aj5
 have p0:decide ((s:Int)<(r:Int))=false:=decide_eq_false (by omega)
 obtain rfl:s=r:=by omega
 have ee:(d:Int)+(m:Int)-(s:Int)=((d+m-s:Nat):Int):=by omega
 repeat'((conv=>whnf);first|apply And.intro|exact bA (by subst_vars;assumption)|intro h9)
 all_goals(try(conv=>whnf))<;>(subst_vars;try first|(apply Tk.mk;kernel_rfl)|exact⟨ah rfl⟩|exact⟨rfl⟩|exact⟨trivial⟩|rfl|contradiction|(apply Ob.mk;(try simp only[ag,ak,aa.ae])<;>(try dsimp only)<;>omega))
 refine⟨List Int,fun B=>hG a b A B/\∀ k,gA B k=gA A (T3 s m (d+m-s) k),fun B=>⟨aI 220 [0,1,3,4,18,20,24] [.a (.sl 3 [] 0 len),.a (vI a),.a (vI b),.a (.fn 102 [2]),.a (vI d),.a (vI s),.a (vI ((d+m-s:Nat):Int))],tm::fr,[.arr 67 kK L false false,.arr 3 kI W true true,.box true [.sl 1 [] 0 W.length],.arr 3 kI B true true]⟩,?_,?_⟩
 ·by_cases f:s<m/\m<d+m-s
  ·have f1:decide ((s:Int)<(m:Int))=true:=decide_eq_true (by omega)
   have f2:decide ((m:Int)<(d:Int)+(m:Int)-(s:Int))=true:=decide_eq_true (by omega)
   repeat'((conv=>whnf);first|apply And.intro|exact bA (by subst_vars;assumption)|intro h9)
   all_goals(try(conv=>whnf))<;>(subst_vars;try first|(apply Tk.mk;kernel_rfl)|exact⟨ah rfl⟩|exact⟨rfl⟩|exact⟨trivial⟩|rfl|contradiction|(apply Ob.mk;(try simp only[ag,ak,aa.ae])<;>(try dsimp only)<;>omega))
   refine hR _ _ _ s m (d+m-s) A _ _ _ rfl rfl (by omega) f.1 f.2 (by omega) hA.1 hlen (hfr.push ?_) ?_
   ·intro is m' n' h1 h2 h3;repeat'((conv=>whnf);(first|apply And.intro|intro _))
    all_goals first|rfl|trivial|omega|(rw[h1 _ (by omega)];done)|(rw[h1 _ (by omega)];omega)|(simp only[List.map_cons,List.map_nil];rw[h1 2 (by decide)];done)|(have h7:=(show ∀ r∈[2],r<4 by decide) _ ‹_›;first|omega|(rw[h1 _ h7];omega))
   intro B akE ayd;repeat'((conv=>whnf);first|apply And.intro|exact bA (by subst_vars;assumption)|intro h9)
   all_goals(try(conv=>whnf))<;>(subst_vars;try first|(apply Tk.mk;kernel_rfl)|exact⟨ah rfl⟩|exact⟨rfl⟩|exact⟨trivial⟩|rfl|contradiction|(apply Ob.mk;(try simp only[ag,ak,aa.ae])<;>(try dsimp only)<;>omega))
   refine⟨B,[0,1,2,3],⟨akE.wide (by omega) (by omega),ayd⟩,?_⟩
   repeat'((conv=>whnf);(first|apply And.intro|intro _))
   all_goals first|rfl|trivial|exact ah rfl|exact⟨rfl,rfl,rfl⟩|exact⟨rfl,rfl⟩|exact hfr.hd _ _ _ (by decide) (ah rfl) (ah rfl)|exact hfr.tl _ _ _ (by decide) (ah rfl) (ah rfl)|(rename_i r9 bx;revert r9;decide)|exact ee
  have anY:hG a b A A/\∀ k,gA A k=gA A (T3 s m (d+m-s) k):=⟨hG.refl ..,fun k=>by
   by_cases g:s<m
   ·rw[show d+m-s=m by omega,avn]
   ·rw[show s=m by omega,avm]⟩
  by_cases g:s<m
  ·have f1:decide ((s:Int)<(m:Int))=true:=decide_eq_true (by omega)
   have f2:decide ((m:Int)<(d:Int)+(m:Int)-(s:Int))=false:=decide_eq_false (by omega)
   repeat'((conv=>whnf);first|apply And.intro|exact bA (by subst_vars;assumption)|intro h9)
   all_goals(try(conv=>whnf))<;>(subst_vars;try first|(apply Tk.mk;kernel_rfl)|exact⟨ah rfl⟩|exact⟨rfl⟩|exact⟨trivial⟩|rfl|contradiction|(apply Ob.mk;(try simp only[ag,ak,aa.ae])<;>(try dsimp only)<;>omega))
   refine⟨A,[0,1,2,3],anY,?_⟩;repeat'((conv=>whnf);(first|apply And.intro|intro _))
   all_goals first|rfl|trivial|exact ah rfl|exact⟨rfl,rfl,rfl⟩|exact⟨rfl,rfl⟩|exact hfr.hd _ _ _ (by decide) (ah rfl) (ah rfl)|exact hfr.tl _ _ _ (by decide) (ah rfl) (ah rfl)|(rename_i r9 bx;revert r9;decide)|exact ee
  have f1:decide ((s:Int)<(m:Int))=false:=decide_eq_false (by omega)
  repeat'((conv=>whnf);first|apply And.intro|exact bA (by subst_vars;assumption)|intro h9)
  all_goals(try(conv=>whnf))<;>(subst_vars;try first|(apply Tk.mk;kernel_rfl)|exact⟨ah rfl⟩|exact⟨rfl⟩|exact⟨trivial⟩|rfl|contradiction|(apply Ob.mk;(try simp only[ag,ak,aa.ae])<;>(try dsimp only)<;>omega))
  refine⟨A,[0,1,2,3],anY,?_⟩;repeat'((conv=>whnf);(first|apply And.intro|intro _))
  all_goals first|rfl|trivial|exact ah rfl|exact⟨rfl,rfl,rfl⟩|exact⟨rfl,rfl⟩|exact hfr.hd _ _ _ (by decide) (ah rfl) (ah rfl)|exact hfr.tl _ _ _ (by decide) (ah rfl) (ah rfl)|(rename_i r9 bx;revert r9;decide)|exact ee
 clear ee;rintro B ⟨akE,ayd⟩;obtain⟨⟨b1,b2,b3,b4,b5⟩,t1,t2,t3,t4,hX⟩:=at4 hS ha h1 h2 ayd;have hB:=And.intro (akE.len.trans hA.1) trivial;have apV:=hV.perm akE.perm;repeat'((conv=>whnf);first|apply And.intro|exact bA (by subst_vars;assumption)|intro h9)
 all_goals(try(conv=>whnf))<;>(subst_vars;try first|(apply Tk.mk;kernel_rfl)|exact⟨ah rfl⟩|exact⟨rfl⟩|exact⟨trivial⟩|rfl|contradiction|(apply Ob.mk;(try simp only[ag,ak,aa.ae])<;>(try dsimp only)<;>omega))
 refine⟨List Int,fun C=>hG a d B C/\kM (cw W) a d C,fun C=>⟨aI 220 [0,3,4,18,24] [.a (.sl 3 [] 0 len),.a (vI b),.a (.fn 102 [2]),.a (vI d),.a (vI ((d+m-s:Nat):Int))],tm::fr,[.arr 67 kK L false false,.arr 3 kI W true true,.box true [.sl 1 [] 0 W.length],.arr 3 kI C true true]⟩,?_,?_⟩
 ·by_cases f:a<s/\s<d
  ·have f1:decide ((a:Int)<(s:Int))=true:=decide_eq_true (by omega)
   have f2:decide ((s:Int)<(d:Int))=true:=decide_eq_true (by omega)
   obtain⟨n',rfl⟩:∃ k,n=k+1:=⟨n-1,by cases n with|zero=>simp at asf;omega|succ n=>omega⟩
   rw[Nat.pow_succ]at asf;repeat'((conv=>whnf);first|apply And.intro|exact bA (by subst_vars;assumption)|intro h9)
   all_goals(try(conv=>whnf))<;>(subst_vars;try first|(apply Tk.mk;kernel_rfl)|exact⟨ah rfl⟩|exact⟨rfl⟩|exact⟨trivial⟩|rfl|contradiction|(apply Ob.mk;(try simp only[ag,ak,aa.ae])<;>(try dsimp only)<;>omega))
   refine IH n' rfl _ _ _ a s d B _ _ _ rfl rfl rfl f.1 f.2 (by omega) (by omega) hB.1 hlen apV t1 t2 (hfr.push ?_) ?_
   ·intro is m' n' h1 h2 h3;repeat'((conv=>whnf);(first|apply And.intro|intro _))
    all_goals first|rfl|trivial|omega|(rw[h1 _ (by omega)];done)|(rw[h1 _ (by omega)];omega)|(simp only[List.map_cons,List.map_nil];rw[h1 2 (by decide)];done)|(have h7:=(show ∀ r∈[2],r<4 by decide) _ ‹_›;first|omega|(rw[h1 _ h7];omega))
   intro C ak0 aq5;repeat'((conv=>whnf);first|apply And.intro|exact bA (by subst_vars;assumption)|intro h9)
   all_goals(try(conv=>whnf))<;>(subst_vars;try first|(apply Tk.mk;kernel_rfl)|exact⟨ah rfl⟩|exact⟨rfl⟩|exact⟨trivial⟩|rfl|contradiction|(apply Ob.mk;(try simp only[ag,ak,aa.ae])<;>(try dsimp only)<;>omega))
   refine⟨C,[0,1,2,3],⟨ak0,aq5⟩,?_⟩;repeat'((conv=>whnf);(first|apply And.intro|intro _))
   all_goals first|rfl|trivial|exact ah rfl|exact⟨rfl,rfl,rfl⟩|exact⟨rfl,rfl⟩|exact hfr.hd _ _ _ (by decide) (ah rfl) (ah rfl)|exact hfr.tl _ _ _ (by decide) (ah rfl) (ah rfl)|(rename_i r9 bx;revert r9;decide)
  have anY:hG a d B B/\kM (cw W) a d B:=⟨hG.refl ..,by
   by_cases g:a<s
   ·exact t1.sub (Nat.le_refl _) (by omega)
   ·exact t2.sub (by omega) (Nat.le_refl _)⟩
  by_cases g:a<s
  ·have f1:decide ((a:Int)<(s:Int))=true:=decide_eq_true (by omega)
   have f2:decide ((s:Int)<(d:Int))=false:=decide_eq_false (by omega)
   repeat'((conv=>whnf);first|apply And.intro|exact bA (by subst_vars;assumption)|intro h9)
   all_goals(try(conv=>whnf))<;>(subst_vars;try first|(apply Tk.mk;kernel_rfl)|exact⟨ah rfl⟩|exact⟨rfl⟩|exact⟨trivial⟩|rfl|contradiction|(apply Ob.mk;(try simp only[ag,ak,aa.ae])<;>(try dsimp only)<;>omega))
   refine⟨B,[0,1,2,3],anY,?_⟩;repeat'((conv=>whnf);(first|apply And.intro|intro _))
   all_goals first|rfl|trivial|exact ah rfl|exact⟨rfl,rfl,rfl⟩|exact⟨rfl,rfl⟩|exact hfr.hd _ _ _ (by decide) (ah rfl) (ah rfl)|exact hfr.tl _ _ _ (by decide) (ah rfl) (ah rfl)|(rename_i r9 bx;revert r9;decide)
  have f1:decide ((a:Int)<(s:Int))=false:=decide_eq_false (by omega)
  repeat'((conv=>whnf);first|apply And.intro|exact bA (by subst_vars;assumption)|intro h9)
  all_goals(try(conv=>whnf))<;>(subst_vars;try first|(apply Tk.mk;kernel_rfl)|exact⟨ah rfl⟩|exact⟨rfl⟩|exact⟨trivial⟩|rfl|contradiction|(apply Ob.mk;(try simp only[ag,ak,aa.ae])<;>(try dsimp only)<;>omega))
  refine⟨B,[0,1,2,3],anY,?_⟩;repeat'((conv=>whnf);(first|apply And.intro|intro _))
  all_goals first|rfl|trivial|exact ah rfl|exact⟨rfl,rfl,rfl⟩|exact⟨rfl,rfl⟩|exact hfr.hd _ _ _ (by decide) (ah rfl) (ah rfl)|exact hfr.tl _ _ _ (by decide) (ah rfl) (ah rfl)|(rename_i r9 bx;revert r9;decide)
 rintro C ⟨ak0,aq5⟩;have hC:=And.intro (ak0.len.trans hB.1) trivial;have anW:=apV.perm ak0.perm;have av9:=t3.keep ak0 (.inr (Nat.le_refl _));have awa:=t4.keep ak0 (.inr b4);have ayl:hG a b A C:=akE.trans (ak0.wide (Nat.le_refl _) (by omega))
 obtain⟨e,he⟩:∃ e,e=d+m-s:=⟨_,rfl⟩;rw[<-he]at b4 b5 av9 awa;by_cases f:d<d+m-s/\d+m-s<b
 ·have f1:decide ((d:Int)<((d+m-s:Nat):Int))=true:=decide_eq_true (by omega)
  have f2:decide (((d+m-s:Nat):Int)<(b:Int))=true:=decide_eq_true (by omega)
  obtain⟨n',rfl⟩:∃ k,n=k+1:=⟨n-1,by cases n with|zero=>simp at asf;omega|succ n=>omega⟩
  rw[Nat.pow_succ]at asf;rw[he]at av9 awa;clear he;repeat'((conv=>whnf);first|apply And.intro|exact bA (by subst_vars;assumption)|intro h9)
  all_goals(try(conv=>whnf))<;>(subst_vars;try first|(apply Tk.mk;kernel_rfl)|exact⟨ah rfl⟩|exact⟨rfl⟩|exact⟨trivial⟩|rfl|contradiction|(apply Ob.mk;(try simp only[ag,ak,aa.ae])<;>(try dsimp only)<;>omega))
  refine IH n' rfl _ _ _ d (d+m-s) b C _ _ _ rfl rfl rfl f.1 f.2 (by omega) (by omega) hC.1 hlen anW av9 awa (hfr.push ?_) ?_
  ·intro is m' n' h1 h2 h3;repeat'((conv=>whnf);(first|apply And.intro|intro _))
   all_goals first|rfl|trivial|omega|(rw[h1 _ (by omega)];done)|(rw[h1 _ (by omega)];omega)|(simp only[List.map_cons,List.map_nil];rw[h1 2 (by decide)];done)|(have h7:=(show ∀ r∈[2],r<4 by decide) _ ‹_›;first|omega|(rw[h1 _ h7];omega))
  intro D an0 aty;have afI:=hK D (ayl.trans (an0.wide (by omega) (Nat.le_refl _))) (aqj hX ak0 an0 aq5 aty)
  repeat'((conv=>whnf);first|apply And.intro|exact bA (by subst_vars;assumption)|intro h9)
  all_goals(try(conv=>whnf))<;>(subst_vars;try first|(apply Tk.mk;kernel_rfl)|exact⟨ah rfl⟩|exact⟨rfl⟩|exact⟨trivial⟩|rfl|contradiction|(apply Ob.mk;(try simp only[ag,ak,aa.ae])<;>(try dsimp only)<;>omega))
  all_goals try first|trivial
  all_goals exact afI
 have afI:=hK C ayl (aqj (D:=C) hX ak0 (hG.refl ..) aq5 (by
  by_cases g:d<d+m-s
  ·exact av9.sub (Nat.le_refl _) (by omega)
  ·exact awa.sub (by omega) (Nat.le_refl _)))
 clear he;by_cases g:d<d+m-s
 ·have f1:decide ((d:Int)<((d+m-s:Nat):Int))=true:=decide_eq_true (by omega)
  have f2:decide (((d+m-s:Nat):Int)<(b:Int))=false:=decide_eq_false (by omega)
  repeat'((conv=>whnf);first|apply And.intro|exact bA (by subst_vars;assumption)|intro h9)
  all_goals(try(conv=>whnf))<;>(subst_vars;try first|(apply Tk.mk;kernel_rfl)|exact⟨ah rfl⟩|exact⟨rfl⟩|exact⟨trivial⟩|rfl|contradiction|(apply Ob.mk;(try simp only[ag,ak,aa.ae])<;>(try dsimp only)<;>omega))
  all_goals try first|trivial
  all_goals exact afI
 have f1:decide ((d:Int)<((d+m-s:Nat):Int))=false:=decide_eq_false (by omega)
 repeat'((conv=>whnf);first|apply And.intro|exact bA (by subst_vars;assumption)|intro h9)
 all_goals(try(conv=>whnf))<;>(subst_vars;try first|(apply Tk.mk;kernel_rfl)|exact⟨ah rfl⟩|exact⟨rfl⟩|exact⟨trivial⟩|rfl|contradiction|(apply Ob.mk;(try simp only[ag,ak,aa.ae])<;>(try dsimp only)<;>omega))
 all_goals try first|trivial
 all_goals exact afI
end
end Go.Proofs.Ytccnimhgjjnmoaa
end
section
namespace Go.Proofs.Ytccnimhgjjnmoaa
open Go Go.Sy Go.dg
variable {Γ:bn}
attribute [local irreducible] ck wN e7 cw swp x8
section
variable (L:List Bk) (W:List Int) (len:Nat)
def arG (cl:Cl):Prop:=∀ (zn:Int) (A:List Int) (tm:Sl) (fr:List Sl) (Kc:Tm->St->Prop),zn=len->A.length=len->len<=1000000->amY W A->alm 4 tm fr->
 (∀ B,hG 0 len A B->kM (cw W) 0 len B->Kc (.bF []) ⟨tm,fr,[.arr 67 kK L false false,.arr 3 kI W true true,.box true [.sl 1 [] 0 W.length],.arr 3 kI B true true]⟩)->cl (bo Try.f117) [.a (.sl 3 [] 0 len),.a (vI zn),.a (.fn 102 [2])] ⟨tm,fr,[.arr 67 kK L false false,.arr 3 kI W true true,.box true [.sl 1 [] 0 W.length],.arr 3 kI A true true]⟩ Kc
def apc (cl:Cl):Prop:=∀ (A:List Int) (tm:Sl) (fr:List Sl) (Kc:Tm->St->Prop),A.length=len->len<=1000000->amY W A->alm 4 tm fr->
 (∀ B,hG 0 len A B->kM (cw W) 0 len B->Kc (.bF []) ⟨tm,fr,[.arr 67 kK L false false,.arr 3 kI W true true,.box true [.sl 1 [] 0 W.length],.arr 3 kI B true true]⟩)->cl (bo Try.f101) [.a (.sl 3 [] 0 len),.a (.fn 102 [2])] ⟨tm,fr,[.arr 67 kK L false false,.arr 3 kI W true true,.box true [.sl 1 [] 0 W.length],.arr 3 kI A true true]⟩ Kc
variable {L} {W} {len}
theorem axa (cl:Cl) (rd:Rd) (hI:arE L W len cl) (hM:apa L W len 20 cl):arG L W len (GG od (jD od cl rd none)):=by
 intro zn A tm fr Kc alw hA hlen hV hfr hK;obtain rfl:=alw;have hstart:hG 0 len A A:=hG.refl ..;replace hA:=And.intro hA trivial;repeat'((conv=>whnf);first|apply And.intro|exact bA (by subst_vars;assumption)|intro h9)
 all_goals(try(conv=>whnf))<;>(subst_vars;try first|(apply Tk.mk;kernel_rfl)|exact⟨ah rfl⟩|exact⟨rfl⟩|exact⟨trivial⟩|rfl|contradiction|(apply Ob.mk;(try simp only[ag,ak,aa.ae])<;>(try dsimp only)<;>omega))
 refine⟨Nat×Nat×List Int,fun x=>x.2.1=x.1*20/\x.2.1<=len/\hG 0 len A x.2.2/\alM (cw W) 20 x.1 x.2.2,fun|(u,a,B)=>⟨aI 63 [0,1,2,6,7,8] [.a (.sl 3 [] 0 len),.a (vI len),.a (.fn 102 [2]),.a (vI 20),.a (vI a),.a (vI ((a:Int)+20))],tm::fr,[.arr 67 kK L false false,.arr 3 kI W true true,.box true [.sl 1 [] 0 W.length],.arr 3 kI B true true]⟩,fun x=>len-x.2.1,(0,0,A),[0,1,2,3],⟨rfl,Nat.zero_le _,hstart,alM.zero _ _ _⟩,?_,?_⟩
 ·repeat'((conv=>whnf);(first|apply And.intro|intro _))
  all_goals first|rfl|trivial|exact ah rfl|exact⟨rfl,rfl,rfl⟩|exact⟨rfl,rfl⟩|exact hfr.hd _ _ _ (by decide) (ah rfl) (ah rfl)|exact hfr.tl _ _ _ (by decide) (ah rfl) (ah rfl)|(rename_i r9 bx;revert r9;decide)
 rintro⟨u,a,B⟩ ⟨hu,aoT,akE,ot⟩;dsimp only at hu aoT akE ot;have hB:=And.intro (akE.len.trans hA.1) trivial;have apV:=hV.perm akE.perm;replace hu:=And.intro hu trivial;by_cases hb:a+20<=len
 ·have p0:decide ((a:Int)+20<=(len:Int))=true:=decide_eq_true (by omega)
  have s1:(a:Int)+20=((a+20:Nat):Int):=by omega
  have s2:(a:Int)+20+20=((a+20:Nat):Int)+20:=by omega
  repeat'((conv=>whnf);first|apply And.intro|exact bA (by subst_vars;assumption)|intro h9)
  all_goals(try(conv=>whnf))<;>(subst_vars;try first|(apply Tk.mk;kernel_rfl)|exact⟨ah rfl⟩|exact⟨rfl⟩|exact⟨trivial⟩|rfl|contradiction|(apply Ob.mk;(try simp only[ag,ak,aa.ae])<;>(try dsimp only)<;>omega))
  refine hI _ _ a (a+20) B _ _ _ rfl (by omega) (by omega) (by omega) hB.1 hlen apV (hfr.push ?_) ?_
  ·intro is m' n' h1 h2 h3;repeat'((conv=>whnf);(first|apply And.intro|intro _))
   all_goals first|rfl|trivial|omega|(rw[h1 _ (by omega)];done)|(rw[h1 _ (by omega)];omega)|(simp only[List.map_cons,List.map_nil];rw[h1 2 (by decide)];done)|(have h7:=(show ∀ r∈[2],r<4 by decide) _ ‹_›;first|omega|(rw[h1 _ h7];omega))
  intro C ak0 aq5;have ab5:alM (cw W) 20 (u+1) C:=ot.next (by rw[<-hu.1];exact ak0) (by rw[<-hu.1];exact aq5)
  repeat'((conv=>whnf);first|apply And.intro|exact bA (by subst_vars;assumption)|intro h9)
  all_goals(try(conv=>whnf))<;>(subst_vars;try first|(apply Tk.mk;kernel_rfl)|exact⟨ah rfl⟩|exact⟨rfl⟩|exact⟨trivial⟩|rfl|contradiction|(apply Ob.mk;(try simp only[ag,ak,aa.ae])<;>(try dsimp only)<;>omega))
  refine⟨(u+1,a+20,C),[0,1,2,3],⟨by dsimp only;omega,hb,akE.trans (ak0.wide (by omega) (by omega)),ab5⟩,?_,by show len-(a+20)<len-a;omega⟩
  repeat'((conv=>whnf);(first|apply And.intro|intro _))
  all_goals first|rfl|trivial|exact ah rfl|exact⟨rfl,rfl,rfl⟩|exact⟨rfl,rfl⟩|exact hfr.hd _ _ _ (by decide) (ah rfl) (ah rfl)|exact hfr.tl _ _ _ (by decide) (ah rfl) (ah rfl)|(rename_i r9 bx;revert r9;decide)|exact s1|exact s2
 have p0:decide ((a:Int)+20<=(len:Int))=false:=decide_eq_false (by omega)
 repeat'((conv=>whnf);first|apply And.intro|exact bA (by subst_vars;assumption)|intro h9)
 all_goals(try(conv=>whnf))<;>(subst_vars;try first|(apply Tk.mk;kernel_rfl)|exact⟨ah rfl⟩|exact⟨rfl⟩|exact⟨trivial⟩|rfl|contradiction|(apply Ob.mk;(try simp only[ag,ak,aa.ae])<;>(try dsimp only)<;>omega))
 refine hI _ _ a len B _ _ _ rfl rfl aoT (Nat.le_refl _) hB.1 hlen apV (hfr.push ?_) ?_
 ·intro is m' n' h1 h2 h3;repeat'((conv=>whnf);(first|apply And.intro|intro _))
  all_goals first|rfl|trivial|omega|(rw[h1 _ (by omega)];done)|(rw[h1 _ (by omega)];omega)|(simp only[List.map_cons,List.map_nil];rw[h1 2 (by decide)];done)|(have h7:=(show ∀ r∈[2],r<4 by decide) _ ‹_›;first|omega|(rw[h1 _ h7];omega))
 intro B2 hp2 pT;have hblk:aD0 (cw W) len 20 0 B2:=ot.fin (by omega) (by omega) (by omega) (by rw[<-hu.1];exact hp2) (by rw[<-hu.1];exact pT)
 have azY:hG 0 len A B2:=akE.trans (hp2.wide (by omega) (Nat.le_refl _))
 clear ot;repeat'((conv=>whnf);first|apply And.intro|exact bA (by subst_vars;assumption)|intro h9)
 all_goals(try(conv=>whnf))<;>(subst_vars;try first|(apply Tk.mk;kernel_rfl)|exact⟨ah rfl⟩|exact⟨rfl⟩|exact⟨trivial⟩|rfl|contradiction|(apply Ob.mk;(try simp only[ag,ak,aa.ae])<;>(try dsimp only)<;>omega))
 refine⟨Nat×List Int,fun x=>(1<=x.1/\x.1<=2000000)/\hG 0 len A x.2/\aD0 (cw W) len x.1 0 x.2,fun|(x,B)=>⟨aI 63 [0,1,2,6] [.a (.sl 3 [] 0 len),.a (vI len),.a (.fn 102 [2]),.a (vI x)],tm::fr,[.arr 67 kK L false false,.arr 3 kI W true true,.box true [.sl 1 [] 0 W.length],.arr 3 kI B true true]⟩,fun x=>4000000-x.1,(20,B2),[0,1,2,3],⟨by dsimp only;omega,azY,hblk⟩,?_,?_⟩
 ·repeat'((conv=>whnf);(first|apply And.intro|intro _))
  all_goals first|rfl|trivial|exact ah rfl|exact⟨rfl,rfl,rfl⟩|exact⟨rfl,rfl⟩|exact hfr.hd _ _ _ (by decide) (ah rfl) (ah rfl)|exact hfr.tl _ _ _ (by decide) (ah rfl) (ah rfl)|(rename_i r9 bx;revert r9;decide)
 rintro⟨x,B3⟩ ⟨⟨cO,cq⟩,avX,ZW⟩;dsimp only at cO cq avX ZW;have aAF:=And.intro (avX.len.trans hA.1) trivial;by_cases aaj:x<len
 ·have q0:decide ((x:Int)<(len:Int))=true:=decide_eq_true (by omega)
  repeat'((conv=>whnf);first|apply And.intro|exact bA (by subst_vars;assumption)|intro h9)
  all_goals(try(conv=>whnf))<;>(subst_vars;try first|(apply Tk.mk;kernel_rfl)|exact⟨ah rfl⟩|exact⟨rfl⟩|exact⟨trivial⟩|rfl|contradiction|(apply Ob.mk;(try simp only[ag,ak,aa.ae])<;>(try dsimp only)<;>omega))
  refine⟨Nat×Nat×List Int,fun z=>z.2.1=z.1*(2*x)/\z.2.1<=len/\hG 0 len A z.2.2/\alM (cw W) (2*x) z.1 z.2.2/\aD0 (cw W) len x z.2.1 z.2.2,fun|(u,y,B)=>⟨aI 63 [0,1,2,6,7,8] [.a (.sl 3 [] 0 len),.a (vI len),.a (.fn 102 [2]),.a (vI x),.a (vI y),.a (vI ((y:Int)+2*(x:Int)))],tm::fr,[.arr 67 kK L false false,.arr 3 kI W true true,.box true [.sl 1 [] 0 W.length],.arr 3 kI B true true]⟩,fun z=>len-z.2.1,(0,0,B3),[0,1,2,3],⟨(Nat.zero_mul _).symm,Nat.zero_le _,avX,alM.zero _ _ _,ZW⟩,?_,?_⟩
  ·repeat'((conv=>whnf);(first|apply And.intro|intro _))
   all_goals first|rfl|trivial|exact ah rfl|exact⟨rfl,rfl,rfl⟩|exact⟨rfl,rfl⟩|exact hfr.hd _ _ _ (by decide) (ah rfl) (ah rfl)|exact hfr.tl _ _ _ (by decide) (ah rfl) (ah rfl)|(rename_i r9 bx;revert r9;decide)|(show(_:Int)=_;omega)
  rintro⟨v,y,C⟩ ⟨hv,qX,ak0,avW,ax9⟩;dsimp only at hv qX ak0 avW ax9;have hC:=And.intro (ak0.len.trans hA.1) trivial;have anW:=hV.perm ak0.perm;obtain⟨t1,t2⟩:=ax9.two;replace hv:=And.intro hv trivial;by_cases h3:y+2*x<=len
  ·have q1:decide ((y:Int)+2*(x:Int)<=(len:Int))=true:=decide_eq_true (by omega)
   have s1:(y:Int)+2*(x:Int)=((y+2*x:Nat):Int):=by omega
   have s2:(y:Int)+2*(x:Int)+2*(x:Int)=((y+2*x:Nat):Int)+2*(x:Int):=by omega
   rw[Nat.min_eq_left (by omega)]at t1 t2
   repeat'((conv=>whnf);first|apply And.intro|exact bA (by subst_vars;assumption)|intro h9)
   all_goals(try(conv=>whnf))<;>(subst_vars;try first|(apply Tk.mk;kernel_rfl)|exact⟨ah rfl⟩|exact⟨rfl⟩|exact⟨trivial⟩|rfl|contradiction|(apply Ob.mk;(try simp only[ag,ak,aa.ae])<;>(try dsimp only)<;>omega))
   refine hM _ _ _ y (y+x) (y+2*x) C _ _ _ rfl (by omega) (by omega) (by omega) (by omega) (by omega) (by omega) hC.1 hlen anW t1 (t2.sub (Nat.le_refl _) (by omega)) (hfr.push ?_) ?_
   ·intro is m' n' h1 h2 h3;repeat'((conv=>whnf);(first|apply And.intro|intro _))
    all_goals first|rfl|trivial|omega|(rw[h1 _ (by omega)];done)|(rw[h1 _ (by omega)];omega)|(simp only[List.map_cons,List.map_nil];rw[h1 2 (by decide)];done)|(have h7:=(show ∀ r∈[2],r<4 by decide) _ ‹_›;first|omega|(rw[h1 _ h7];omega))
   intro D an0 aty;have ab5:alM (cw W) (2*x) (v+1) D:=avW.next (by rw[<-hv.1];exact an0) (by rw[<-hv.1];exact aty)
   have hvs:y+2*x=(v+1)*(2*x):=by rw[Nat.add_mul,<-hv.1];omega
   have aAi:=ax9.next an0;replace hvs:=And.intro hvs trivial;repeat'((conv=>whnf);first|apply And.intro|exact bA (by subst_vars;assumption)|intro h9)
   all_goals(try(conv=>whnf))<;>(subst_vars;try first|(apply Tk.mk;kernel_rfl)|exact⟨ah rfl⟩|exact⟨rfl⟩|exact⟨trivial⟩|rfl|contradiction|(apply Ob.mk;(try simp only[ag,ak,aa.ae])<;>(try dsimp only)<;>omega))
   refine⟨(v+1,y+2*x,D),[0,1,2,3],⟨hvs.1,h3,ak0.trans (an0.wide (by omega) (by omega)),ab5,aAi⟩,?_,by show len-(y+2*x)<len-y;omega⟩
   repeat'((conv=>whnf);(first|apply And.intro|intro _))
   all_goals first|rfl|trivial|exact ah rfl|exact⟨rfl,rfl,rfl⟩|exact⟨rfl,rfl⟩|exact hfr.hd _ _ _ (by decide) (ah rfl) (ah rfl)|exact hfr.tl _ _ _ (by decide) (ah rfl) (ah rfl)|(rename_i r9 bx;revert r9;decide)|exact s1|exact s2
  have q1:decide ((y:Int)+2*(x:Int)<=(len:Int))=false:=decide_eq_false (by omega)
  have s3:(x:Int)*2=((2*x:Nat):Int):=by omega
  by_cases h4:y+x<len
  ·have q2:decide ((y:Int)+(x:Int)<(len:Int))=true:=decide_eq_true (by omega)
   rw[Nat.min_eq_left (by omega)]at t1
   rw[Nat.min_eq_right (by omega)]at t2
   repeat'((conv=>whnf);first|apply And.intro|exact bA (by subst_vars;assumption)|intro h9)
   all_goals(try(conv=>whnf))<;>(subst_vars;try first|(apply Tk.mk;kernel_rfl)|exact⟨ah rfl⟩|exact⟨rfl⟩|exact⟨trivial⟩|rfl|contradiction|(apply Ob.mk;(try simp only[ag,ak,aa.ae])<;>(try dsimp only)<;>omega))
   refine hM _ _ _ y (y+x) len C _ _ _ rfl (by omega) rfl (by omega) (by omega) (Nat.le_refl _) (by omega) hC.1 hlen anW t1 t2 (hfr.push ?_) ?_
   ·intro is m' n' h1 h2 h3;repeat'((conv=>whnf);(first|apply And.intro|intro _))
    all_goals first|rfl|trivial|omega|(rw[h1 _ (by omega)];done)|(rw[h1 _ (by omega)];omega)|(simp only[List.map_cons,List.map_nil];rw[h1 2 (by decide)];done)|(have h7:=(show ∀ r∈[2],r<4 by decide) _ ‹_›;first|omega|(rw[h1 _ h7];omega))
   intro D an0 aty;have ab5:aD0 (cw W) len (2*x) 0 D:=avW.fin (by omega) (by omega) (by omega) (by rw[<-hv.1];exact an0) (by rw[<-hv.1];exact aty)
   repeat'((conv=>whnf);first|apply And.intro|exact bA (by subst_vars;assumption)|intro h9)
   all_goals(try(conv=>whnf))<;>(subst_vars;try first|(apply Tk.mk;kernel_rfl)|exact⟨ah rfl⟩|exact⟨rfl⟩|exact⟨trivial⟩|rfl|contradiction|(apply Ob.mk;(try simp only[ag,ak,aa.ae])<;>(try dsimp only)<;>omega))
   refine⟨(2*x,D),[0,1,2,3],⟨by dsimp only;omega,ak0.trans (an0.wide (by omega) (Nat.le_refl _)),ab5⟩,?_,by show 4000000-2*x<4000000-x;omega⟩
   repeat'((conv=>whnf);(first|apply And.intro|intro _))
   all_goals first|rfl|trivial|exact ah rfl|exact⟨rfl,rfl,rfl⟩|exact⟨rfl,rfl⟩|exact hfr.hd _ _ _ (by decide) (ah rfl) (ah rfl)|exact hfr.tl _ _ _ (by decide) (ah rfl) (ah rfl)|(rename_i r9 bx;revert r9;decide)|exact s3
  have q2:decide ((y:Int)+(x:Int)<(len:Int))=false:=decide_eq_false (by omega)
  rw[Nat.min_eq_right (by omega)]at t1
  have ab5:aD0 (cw W) len (2*x) 0 C:=avW.fin (by omega) (by omega) (by omega) (hG.refl ..) (by rw[<-hv.1];exact t1)
  repeat'((conv=>whnf);first|apply And.intro|exact bA (by subst_vars;assumption)|intro h9)
  all_goals(try(conv=>whnf))<;>(subst_vars;try first|(apply Tk.mk;kernel_rfl)|exact⟨ah rfl⟩|exact⟨rfl⟩|exact⟨trivial⟩|rfl|contradiction|(apply Ob.mk;(try simp only[ag,ak,aa.ae])<;>(try dsimp only)<;>omega))
  refine⟨(2*x,C),[0,1,2,3],⟨by dsimp only;omega,ak0,ab5⟩,?_,by show 4000000-2*x<4000000-x;omega⟩
  repeat'((conv=>whnf);(first|apply And.intro|intro _))
  all_goals first|rfl|trivial|exact ah rfl|exact⟨rfl,rfl,rfl⟩|exact⟨rfl,rfl⟩|exact hfr.hd _ _ _ (by decide) (ah rfl) (ah rfl)|exact hfr.tl _ _ _ (by decide) (ah rfl) (ah rfl)|(rename_i r9 bx;revert r9;decide)|exact s3
 have q0:decide ((x:Int)<(len:Int))=false:=decide_eq_false (by omega)
 have afI:=hK B3 avX (ZW.whole (by omega))
 repeat'((conv=>whnf);first|apply And.intro|exact bA (by subst_vars;assumption)|intro h9)
 all_goals(try(conv=>whnf))<;>(subst_vars;try first|(apply Tk.mk;kernel_rfl)|exact⟨ah rfl⟩|exact⟨rfl⟩|exact⟨trivial⟩|rfl|contradiction|(apply Ob.mk;(try simp only[ag,ak,aa.ae])<;>(try dsimp only)<;>omega))
 all_goals try first|trivial
 all_goals exact afI
theorem ayQ (cl:Cl) (rd:Rd) (hT:arG L W len cl):apc L W len (GG od (jD od cl rd none)):=by
 intro A tm fr Kc hA hlen hV hfr hK;replace hA:=And.intro hA trivial;repeat'((conv=>whnf);first|apply And.intro|exact bA (by subst_vars;assumption)|intro h9)
 all_goals(try(conv=>whnf))<;>(subst_vars;try first|(apply Tk.mk;kernel_rfl)|exact⟨ah rfl⟩|exact⟨rfl⟩|exact⟨trivial⟩|rfl|contradiction|(apply Ob.mk;(try simp only[ag,ak,aa.ae])<;>(try dsimp only)<;>omega))
 refine hT _ A _ _ _ rfl hA.1 hlen hV (hfr.push ?_) ?_
 ·intro is m' n' h1 h2 h3;repeat'((conv=>whnf);(first|apply And.intro|intro _))
  all_goals first|rfl|trivial|omega|(rw[h1 _ (by omega)];done)|(rw[h1 _ (by omega)];omega)|(simp only[List.map_cons,List.map_nil];rw[h1 2 (by decide)];done)|(have h7:=(show ∀ r∈[2],r<4 by decide) _ ‹_›;first|omega|(rw[h1 _ h7];omega))
 intro B akE AP;have afI:=hK B akE AP;repeat'((conv=>whnf);first|apply And.intro|exact bA (by subst_vars;assumption)|intro h9)
 all_goals(try(conv=>whnf))<;>(subst_vars;try first|(apply Tk.mk;kernel_rfl)|exact⟨ah rfl⟩|exact⟨rfl⟩|exact⟨trivial⟩|rfl|contradiction|(apply Ob.mk;(try simp only[ag,ak,aa.ae])<;>(try dsimp only)<;>omega))
 all_goals try first|trivial
 all_goals exact afI
abbrev alC (n:Nat):Cl:=GG od (MC od n none)
theorem axb (k:Nat):arH L W len (alC (k+1)):=axc (alC k) (wF (MC od k))
theorem atV (k:Nat):arF L W len (alC (k+2)):=ayL (alC (k+1)) (wF (MC od (k+1))) (axb k)
theorem ayv (k:Nat):arE L W len (alC (k+1)):=ayw (alC k) (wF (MC od k))
theorem at2:∀ (n k:Nat),apa L W len n (alC (k+3+n))
 |0,k=>at3 0 (alC (k+2)) (wF (MC od (k+2))) (atV k) (fun k hk=>by cases hk)
 |n+1,k=>at3 (n+1) (alC (k+3+n)) (wF (MC od (k+3+n))) (by
   rw[show k+3+n=k+1+n+2 by omega];exact atV (k+1+n)) (fun q hq=>by
   obtain rfl:n=q:=by omega
   exact at2 n k)
theorem aw9 (k:Nat):arG L W len (alC (k+24)):=axa (alC (k+23)) (wF (MC od (k+23))) (ayv (k+22)) (at2 20 k)
theorem ayP (k:Nat):apc L W len (alC (k+25)):=ayQ (alC (k+24)) (wF (MC od (k+24))) (aw9 k)
end
end Go.Proofs.Ytccnimhgjjnmoaa
end
