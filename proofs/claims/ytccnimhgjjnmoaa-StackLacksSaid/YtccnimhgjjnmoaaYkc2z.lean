/-
  Texts of the claims: Ykc2z. No condition: lemmas and contracts.
-/
import Derived.Test.YtccnimhgjjnmoaaSya1z
import Derived.Test.YtccnimhgjjnmoaaSya2z
import Derived.Test.YtccnimhgjjnmoaaSya3z
import Derived.Test.YtccnimhgjjnmoaaSya4z
import Derived.Test.YtccnimhgjjnmoaaSya5z
import Derived.Test.YtccnimhgjjnmoaaPla6z
import Derived.Test.YtccnimhgjjnmoaaYka7z
import Derived.Test.YtccnimhgjjnmoaaYka8z
import Derived.Test.YtccnimhgjjnmoaaYka9z
import Derived.Test.YtccnimhgjjnmoaaYka10z
import Derived.Test.YtccnimhgjjnmoaaPlb1z
import Derived.Test.YtccnimhgjjnmoaaPlc1z
set_option linter.all false
set_option maxRecDepth 100000
set_option maxHeartbeats 40000000
section
namespace Go.Proofs.Ytccnimhgjjnmoaa
open Go Go.Sy Go.dg
variable {Γ:bn}
def aFB (D:List Bk->Int->Int->Int->List Int->List aa) (F:List Bk->Int->Int->Int->List Int->Tm):au:=.fn fun args rg=>match args with
 |[.a x0,.agg [.v (.int .i64 n0),.v (.int .i64 n1),.v (.int .i64 n2)],.a x1]=>(match ac1 67 kK rg x0,ac1 3 kI rg x1 with|some (q0,L0),some (q1,L1)=>some (q0++(q1++(D L0 n0 n1 n2 L1)),F L0 n0 n1 n2 L1)|_,_=>none)
 |_=>none
theorem aEL {f:FuncId} {b:Body} {E:Env} {d:Nat} (hP:aL Try.prog Γ E) (hb:bQ Try.prog f b) {D:List Bk->Int->Int->Int->List Int->List aa} {F:List Bk->Int->Int->Int->List Int->Tm} (hp:∀ (L0:List Bk) (n0:Int) (n1:Int) (n2:Int) (L1:List Int),(F L0 n0 n1 n2 L1).plain=true)
 (H:∀ (L0:List Bk) (n0:Int) (n1:Int) (n2:Int) (L1:List Int),bW (D L0 n0 n1 n2 L1)->cQ E d b [.a (.sl 0 [] 0 L0.length),.agg [vI n0,vI n1,vI n2],.a (.sl 1 [] 0 L1.length)] [.arr 67 kK L0 false false,.arr 3 kI L1 false false] (fun x _=>iL x (F L0 n0 n1 n2 L1))):au.Ok Try.prog Γ f (aFB D F):=au.aBp (d:=d) hP hb (by
 intro args rg q t hF hq;split at hF;next x0 n0 n1 n2 x1=>
  split at hF;next q0 L0 q1 L1 hx0 cO=>
   obtain⟨rfl,rfl⟩:=Prod.mk.inj (Option.some.inj hF);clear hF;rw[aH,aH]at hq;obtain⟨aIh,gk,hD⟩:=hq;obtain⟨e0,Vn⟩:=bP (by simp[kK]) hx0 aIh
   obtain⟨e1,iO⟩:=bP (by simp[kI]) cO gk
   obtain⟨p0,r0⟩:=Vn [e0,e1] 0 2 rfl (by omega)
   obtain⟨p1,r1⟩:=iO [e0,e1] 1 2 rfl (by omega)
   refine⟨hp _ _ _ _ _,[e0,e1],[.a (.sl 0 [] 0 L0.length),.agg [vI n0,vI n1,vI n2],.a (.sl 1 [] 0 L1.length)],[.arr 67 kK L0 false false,.arr 3 kI L1 false false],⟨⟨p0,⟨rfl,rfl,rfl,trivial⟩,p1,trivial⟩,fun r g hg=>?_⟩,H _ _ _ _ _ hD⟩
   match r,hg with
   |0,hg=>obtain rfl:=Option.some.inj hg;exact r0
   |1,hg=>obtain rfl:=Option.some.inj hg;exact r1
  next=>cases hF
 next=>cases hF)
theorem aFe:∀ {es:List (Int×Int)} {n v:Int},(∀ e∈es,e.1≠n)->dF es n v=es++[(n,v)]
 |[],_,_,_=>rfl
 |(k,w)::es,n,v,h=>by
  have h1:(k==n)=false:=beq_eq_false_iff_ne.2 (h (k,w) (List.mem_cons_self ..));have ih:=aFe (es:=es) (n:=n) (v:=v) fun e he=>h e (List.mem_cons_of_mem _ he)
  simp only[dF,h1,ih,List.cons_append]
theorem aFd:∀ (L:List Bk) (x:Int),wO L x=decide (pos L x<L.length)
 |[],_=>rfl
 |(k,w)::L,x=>by
  have ih:=aFd L x;by_cases h:k=x
  ·have h1:(k==x)=true:=beq_iff_eq.2 h;simp[wO,pos,h]
  ·have h1:(k==x)=false:=beq_eq_false_iff_ne.2 h;simp[wO,pos,h1,h,ih]
theorem aFc:∀ {L:List Bk} {x:Int},pos L x<L.length->aO L x 0=lenOf L x
 |[],_,h=>by simp at h
 |(k,w)::L,x,h=>by
  unfold lenOf;simp only[aO,pos,List.length_cons]at h ⊢;by_cases e:k=x
  ·have h1:(k==x)=true:=beq_iff_eq.2 e;rw[h1,if_pos e];rfl
  ·have h1:(k==x)=false:=beq_eq_false_iff_ne.2 e;rw[if_neg e]at h;rw[h1,if_neg e,List.getD_cons_succ];exact aFc (L:=L) (by omega)
theorem aFS {L:List Bk} (hL:aos L) {i:Nat} (hi:i<L.length):dF (L.take i) (bk L i).1 (bk L i).2=L.take (i+1):=by
 rw[aFe,List.take_add_one,List.getElem?_eq_getElem hi,akX hi]
 ·rfl
 ·intro e he;obtain⟨j,hj,rfl⟩:=List.mem_iff_getElem.1 he;rw[List.length_take]at hj;rw[List.getElem_take];have:=List.pairwise_iff_getElem.1 hL j i (by omega) hi (by omega)
  rw[akX hi];omega
theorem aGW {L:List Bk} (hB:gb L) {x:Int} (h:pos L x<L.length):1<=lenOf L x/\lenOf L x<=56294995342131:=by
 have hm:L.getD (pos L x) (0,0)∈L:=by rw[List.getD_eq_getElem?_getD,List.getElem?_eq_getElem h];exact List.getElem_mem h
 have:=hB.len hm;unfold lenOf;omega
def aD1 (L:List Bk) (l t f:Int) (I:List Int):Int×Int:=if bf L l t f=0 then(if I=[]then(0,1)else if(aD2 L none I).1=0 then((aD2 L none I).2.1+((I.length:Int)-1)*f,0)else(0,(aD2 L none I).1))else(0,bf L l t f)
theorem aGa (A:List Int) (k:Nat):ca A k=A.getD k 0:=by unfold ca;rw[Nat.zero_add,Int.toNat_natCast];rfl
theorem aFD {A:List Int} {k:Nat} (h:0<k):ca A ((k:Int)-1)=A.getD (k-1) 0:=by rw[show((k:Int)-1)=((k-1:Nat):Int) by omega,aGa]
attribute [local irreducible] ck bf lu pos aD2 lenOf aO wO dF aQ
def aEf:au:=aFB (fun L _ _ _ I=>[(aa.of (L.length<=1000000)),(aa.of (I.length<=1000))]) (fun L l t f I=> .bF [.a (vI (aD1 L l t f I).1),.a (vI (aD1 L l t f I).2)])
noncomputable def aHq:List (Nat×au):=[(54,aBa)]
theorem aGl:aR Try.prog Γ aHq:=(aR.nil.cons (aj Try.func54 rfl rfl).fn fQ)
theorem aEc:au.Ok Try.prog Γ 46 aEf:=aEL (d:=0) (aP aGl bq.nil false 0) (aj Try.func46 rfl rfl) (fun _ _ _ _ _=>rfl) (by
 intro L l t f I ⟨hL,hI,_⟩;simp only[aa.ae]at hL hI;have hone:=akP L l t f;cases h0:bf L l t f==0
 ·have e0:(lu L [(l,t,f)]!=0)=true:=by rw[hone];unfold bne;rw[h0];rfl
  rw[show aD1 L l t f I=(0,bf L l t f) by unfold aD1;rw[if_neg (by simpa using h0)]]
  repeat'((conv=>whnf);first|apply And.intro|exact bA (by subst_vars;assumption)|intro h9)
  all_goals(try(conv=>whnf))<;>(subst_vars;try first|(apply Tk.mk;kernel_rfl)|exact⟨ah rfl⟩|exact⟨rfl⟩|exact⟨trivial⟩|rfl|contradiction|(apply Ob.mk;(try simp only[ag,ak,aa.ae])<;>(try dsimp only)<;>omega))
  all_goals first|trivial|exact⟨hL⟩
 have e0:(lu L [(l,t,f)]!=0)=false:=by rw[hone];unfold bne;rw[h0];rfl
 have ha:=eq_of_beq h0;obtain⟨hB,hw⟩:=gg ha;obtain⟨hl,ht,hf⟩:=wE hw;cases k0:((I.length:Int)==0);rotate_left
 ·have Ra:I=[]:=List.eq_nil_of_length_eq_zero (by have:(I.length:Int)=0:=eq_of_beq k0;omega)
  rw[show aD1 L l t f I=(0,1) by unfold aD1;rw[if_pos ha,if_pos Ra]]
  clear Ra;repeat'((conv=>whnf);first|apply And.intro|exact bA (by subst_vars;assumption)|intro h9)
  all_goals(try(conv=>whnf))<;>(subst_vars;try first|(apply Tk.mk;kernel_rfl)|exact⟨ah rfl⟩|exact⟨rfl⟩|exact⟨trivial⟩|rfl|contradiction|(apply Ob.mk;(try simp only[ag,ak,aa.ae])<;>(try dsimp only)<;>omega))
  all_goals first|trivial|exact⟨hL⟩
 have aGi:¬I=[]:=fun e=>by subst e;cases k0
 have hF:∀ e:Int,∀ n:Int,∀ s:Nat,aD2 L none I=(e,n,s)->aD1 L l t f I=if e=0 then(n+((I.length:Int)-1)*f,0)else(0,e):=fun e n s h=>by
  unfold aD1;rw[if_pos ha,if_neg aGi,h]
 have hmul:0<=((I.length:Int)-1)*f/\((I.length:Int)-1)*f<=1000*1000000:=by
  have hp:1<=(I.length:Int):=by have:=List.length_pos_iff.2 aGi;omega
  have h1:((I.length:Int)-1)*f<=1000*f:=Int.mul_le_mul_of_nonneg_right (by omega) (by omega)
  have h2:=Int.mul_nonneg (show 0<=(I.length:Int)-1 by omega) hf.1
  omega
 have z0:List.take 0 L=[]:=List.take_zero ..;repeat'((conv=>whnf);first|apply And.intro|exact bA (by subst_vars;assumption)|intro h9)
 all_goals(try(conv=>whnf))<;>(subst_vars;try first|(apply Tk.mk;kernel_rfl)|exact⟨ah rfl⟩|exact⟨rfl⟩|exact⟨trivial⟩|rfl|contradiction|(apply Ob.mk;(try simp only[ag,ak,aa.ae])<;>(try dsimp only)<;>omega))
 all_goals try first|exact⟨hL⟩
 refine⟨Nat,fun i=>i<=L.length,fun i=>⟨aI 78 [0,2,4,9,28,29,30] [.a (.sl 0 [] 0 L.length),.a (.sl 1 [] 0 I.length),.a (.p 2 [] 0 0),.a (.mp 3),.a (.sl 0 [] 0 L.length),.a (vI L.length),.a (vI i)],[],[.arr 67 kK L false false,.arr 3 kI I false false,.box true [vI l,vI t,vI f],.map 111 .i64 (.int .i64) (L.take i) true]⟩,fun i=>L.length-i,0,[0,1,2,4],Nat.zero_le _,?_,?_⟩
 ·repeat'((conv=>whnf)<;>first|apply And.intro|intro _|rfl|trivial|exact ah rfl|exact aS ‹_› rfl|exact aT ‹_› rfl|((repeat' first|rfl|constructor);done))
 intro i hi;by_cases hi1:i<L.length
 ·have p0:decide ((i:Int)<(L.length:Int))=true:=decide_eq_true (by omega)
  have hst:=aFS hB.aos hi1;rw[<-tb]at hst;repeat'((conv=>whnf);first|apply And.intro|exact bA (by subst_vars;assumption)|intro h9)
  all_goals(try(conv=>whnf))<;>(subst_vars;try first|(apply Tk.mk;kernel_rfl)|exact⟨ah rfl⟩|exact⟨rfl⟩|exact⟨trivial⟩|rfl|contradiction|(apply Ob.mk;(try simp only[ag,ak,aa.ae])<;>(try dsimp only)<;>omega))
  all_goals try first|exact⟨show 0+Int.toNat (i:Int)<L.length by omega⟩
  refine⟨i+1,[0,1,2,3],hi1,?_,by show L.length-(i+1)<L.length-i;omega⟩
  repeat'((conv=>whnf)<;>first|apply And.intro|intro _|rfl|trivial|exact ah rfl|exact aS ‹_› rfl|exact aT ‹_› rfl|((repeat' first|rfl|constructor);done)|exact⟨rfl,rfl,rfl,hst⟩)
 have p0:decide ((i:Int)<(L.length:Int))=false:=decide_eq_false (by omega)
 have pU:L.take i=L:=List.take_of_length_le (by omega)
 repeat'((conv=>whnf);first|apply And.intro|exact bA (by subst_vars;assumption)|intro h9)
 all_goals(try(conv=>whnf))<;>(subst_vars;try first|(apply Tk.mk;kernel_rfl)|exact⟨ah rfl⟩|exact⟨rfl⟩|exact⟨trivial⟩|rfl|contradiction|(apply Ob.mk;(try simp only[ag,ak,aa.ae])<;>(try dsimp only)<;>omega))
 refine⟨Nat×Int×Nat,fun x=>x.1<=I.length/\aD2 L none I=aEa x.2.1 x.2.2 (aD2 L (tU I x.1) (I.drop x.1))/\0<=x.2.1/\x.2.1<=(x.1:Int)*56294995342131,fun|(i,n,_)=>⟨aI 78 [2,4,9,12,40,41,42] [.a (.sl 1 [] 0 I.length),.a (.p 2 [] 0 0),.a (.mp 3),.a (vI n),.a (.sl 1 [] 0 I.length),.a (vI I.length),.a (vI i)],[],[.arr 67 kK L false false,.arr 3 kI I false false,.box true [vI l,vI t,vI f],.map 111 .i64 (.int .i64) (L) true]⟩,fun x=>I.length-x.1,(0,0,0),[0,1,2,3],⟨Nat.zero_le _,(aEP L none I).symm,Int.le_refl _,Int.le_refl _⟩,?_,?_⟩
 ·repeat'((conv=>whnf)<;>first|apply And.intro|intro _|rfl|trivial|exact ah rfl|exact aS ‹_› rfl|exact aT ‹_› rfl|((repeat' first|rfl|constructor);done)|exact⟨rfl,rfl,rfl,pU⟩)
 rintro⟨i,n,s⟩ ⟨hi,hacc,RA,Hq⟩;dsimp only at hi hacc RA Hq;by_cases hi1:i<I.length
 ·have p0:decide ((i:Int)<(I.length:Int))=true:=decide_eq_true (by omega)
  have hx:=aGa I i;have hps:=aFd L (ca I i);have aai:=aEp L (ca I i);by_cases hp:pos L (ca I i)<L.length
  ·have q0:(!wO L (ca I i))=false:=by rw[hps,decide_eq_true hp];rfl
   have hg:=aFc hp;have hlo:=aGW hB hp;rw[<-hg]at hlo;have hr:ak .i64 (n+aO L (ca I i) 0):=by simp only[ak];omega
   have qR:0<i->ca I i<=ca I ((i:Int)-1)->aD2 L none I=(6,0,0):=fun h1 h2=>aFf hi1 hacc (by rw[<-hx];exact hp) h1 (by rw[<-hx,<-aFD h1];exact h2)
   have hgo:(i=0\/¬ca I i<=ca I ((i:Int)-1))->aD2 L none I=aEa (n+aO L (ca I i) 0) (s+2^pos L (ca I i)) (aD2 L (tU I (i+1)) (I.drop (i+1))):=fun h=>by
    rw[hg,hx];refine aFw hi1 hacc (by rw[<-hx];exact hp) ?_
    rcases h with h|h
    ·exact .inl h
    ·by_cases hz:i=0
     ·exact .inl hz
     ·rw[aFD (by omega),hx]at h;exact .inr (by omega)
   by_cases hz:0<i
   ·have q1:decide ((i:Int)>0)=true:=decide_eq_true (by omega)
    by_cases hle:ca I i<=ca I ((i:Int)-1)
    ·have q2:decide (ca I i<=ca I ((i:Int)-1))=true:=decide_eq_true hle;rw[show aD1 L l t f I=(0,6) by rw[hF _ _ _ (qR hz hle)];rfl]
     repeat'((conv=>whnf);first|apply And.intro|exact bA (by subst_vars;assumption)|intro h9)
     all_goals(try(conv=>whnf))<;>(subst_vars;try first|(apply Tk.mk;kernel_rfl)|exact⟨ah rfl⟩|exact⟨rfl⟩|exact⟨trivial⟩|rfl|contradiction|(apply Ob.mk;(try simp only[ag,ak,aa.ae])<;>(try dsimp only)<;>omega))
     all_goals first|trivial|exact⟨show 0+Int.toNat (i:Int)<I.length by omega⟩|exact⟨show 0+Int.toNat ((i:Int)-1)<I.length by omega⟩
    have q2:decide (ca I i<=ca I ((i:Int)-1))=false:=decide_eq_false hle;have hn:=hgo (.inr hle);repeat'((conv=>whnf);first|apply And.intro|exact bA (by subst_vars;assumption)|intro h9)
    all_goals(try(conv=>whnf))<;>(subst_vars;try first|(apply Tk.mk;kernel_rfl)|exact⟨ah rfl⟩|exact⟨rfl⟩|exact⟨trivial⟩|rfl|contradiction|(apply Ob.mk;(try simp only[ag,ak,aa.ae])<;>(try dsimp only)<;>omega))
    all_goals try first|exact⟨hr⟩|exact⟨show 0+Int.toNat (i:Int)<I.length by omega⟩|exact⟨show 0+Int.toNat ((i:Int)-1)<I.length by omega⟩
    refine⟨(i+1,n+aO L (ca I i) 0,s+2^pos L (ca I i)),[0,1,2,3],⟨hi1,hn,by dsimp only;omega,by dsimp only;omega⟩,?_,by show I.length-(i+1)<I.length-i;omega⟩
    repeat'((conv=>whnf)<;>first|apply And.intro|intro _|rfl|trivial|exact ah rfl|exact aS ‹_› rfl|exact aT ‹_› rfl|((repeat' first|rfl|constructor);done))
   have q1:decide ((i:Int)>0)=false:=decide_eq_false (by omega)
   have hn:=hgo (.inl (by omega))
   repeat'((conv=>whnf);first|apply And.intro|exact bA (by subst_vars;assumption)|intro h9)
   all_goals(try(conv=>whnf))<;>(subst_vars;try first|(apply Tk.mk;kernel_rfl)|exact⟨ah rfl⟩|exact⟨rfl⟩|exact⟨trivial⟩|rfl|contradiction|(apply Ob.mk;(try simp only[ag,ak,aa.ae])<;>(try dsimp only)<;>omega))
   all_goals try first|exact⟨hr⟩|exact⟨show 0+Int.toNat (i:Int)<I.length by omega⟩
   refine⟨(i+1,n+aO L (ca I i) 0,s+2^pos L (ca I i)),[0,1,2,3],⟨hi1,hn,by dsimp only;omega,by dsimp only;omega⟩,?_,by show I.length-(i+1)<I.length-i;omega⟩
   repeat'((conv=>whnf)<;>first|apply And.intro|intro _|rfl|trivial|exact ah rfl|exact aS ‹_› rfl|exact aT ‹_› rfl|((repeat' first|rfl|constructor);done))
  have q0:(!wO L (ca I i))=true:=by rw[hps,decide_eq_false hp];rfl
  rw[show aD1 L l t f I=(0,5) by rw[hF _ _ _ (aFx hi1 hacc (by rw[<-hx];omega))];rfl]
  repeat'((conv=>whnf);first|apply And.intro|exact bA (by subst_vars;assumption)|intro h9)
  all_goals(try(conv=>whnf))<;>(subst_vars;try first|(apply Tk.mk;kernel_rfl)|exact⟨ah rfl⟩|exact⟨rfl⟩|exact⟨trivial⟩|rfl|contradiction|(apply Ob.mk;(try simp only[ag,ak,aa.ae])<;>(try dsimp only)<;>omega))
  all_goals first|trivial|exact⟨show 0+Int.toNat (i:Int)<I.length by omega⟩
 have p0:decide ((i:Int)<(I.length:Int))=false:=decide_eq_false (by omega)
 rw[show aD1 L l t f I=(n+((I.length:Int)-1)*f,0) by rw[hF _ _ _ (aFV (by omega) hacc)];rfl]
 repeat'((conv=>whnf);first|apply And.intro|exact bA (by subst_vars;assumption)|intro h9)
 all_goals(try(conv=>whnf))<;>(subst_vars;try first|(apply Tk.mk;kernel_rfl)|exact⟨ah rfl⟩|exact⟨rfl⟩|exact⟨trivial⟩|rfl|contradiction|(apply Ob.mk;(try simp only[ag,ak,aa.ae])<;>(try dsimp only)<;>omega))
 all_goals first|trivial)
end Go.Proofs.Ytccnimhgjjnmoaa
end
