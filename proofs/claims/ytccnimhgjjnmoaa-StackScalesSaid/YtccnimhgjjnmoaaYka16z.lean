/-
  Texts of the claims: Yka16z. No condition: lemmas and contracts.
-/
import Derived.Test.YtccnimhgjjnmoaaSya1z
import Derived.Test.YtccnimhgjjnmoaaSya2z
import Derived.Test.YtccnimhgjjnmoaaSya3z
import Derived.Test.YtccnimhgjjnmoaaSya4z
import Derived.Test.YtccnimhgjjnmoaaSya5z
import Derived.Test.YtccnimhgjjnmoaaPla6z
import Derived.Test.YtccnimhgjjnmoaaYka7z
import Derived.Test.YtccnimhgjjnmoaaYka8z
import Derived.Test.YtccnimhgjjnmoaaYka9z
import Derived.Test.YtccnimhgjjnmoaaYka10z
import Derived.Test.YtccnimhgjjnmoaaYka11z
import Derived.Test.YtccnimhgjjnmoaaYka12z
import Derived.Test.YtccnimhgjjnmoaaYka13z
import Derived.Test.YtccnimhgjjnmoaaYka14z
import Derived.Test.YtccnimhgjjnmoaaYka15z
set_option linter.all false
set_option maxRecDepth 100000
set_option maxHeartbeats 40000000
section
namespace Go.Proofs.Ytccnimhgjjnmoaa
open Go Go.Sy Go.dg
variable {Γ:bn}
attribute [local irreducible] ck wN kG akS
def awU (id:Nat):Option (Nat×OT):=match Nat.beq id 11 with|true=>some (13,.take 0 (.take 1 (.take 2 (.take 3 (.take 4 (.take 5 (.take 6 (.take 7 (.take 8 (.take 11 (.alt 9 (.alt 10 (.take 12 .fin) .fin) .fin)))))))))))|false=>none
def er (L:List Bk) (i:Nat):List Bk:=cL [(L.drop (0+0)).take (Int.toNat (i:Int)-0),(L.drop (0+Int.toNat ((i:Int)+1))).take (L.length-Int.toNat ((i:Int)+1))] 2
theorem ay6 (L:List Bk) (i:Nat):er L i=L.eraseIdx i:=by
 rw[<-aqC L (i:=i)];unfold er cL sub;rw[show Int.toNat ((i:Int)+1)=i+1 by omega,Int.toNat_natCast]
 simp
def tx (L:List Bk) (l t f:Int) (i:Nat):Bool:=kG f (l-t+f) (l+t+f) L==kG f (l-t+f) (l+t+f) (L.eraseIdx i)
attribute [local irreducible] cL
def amF (L:List Bk) (l t f:Int):cM:=match bf L l t f==0,kG f (l-t+f) (l+t+f) L==0 with
 |false,_=>akH (bf L l t f)
 |true,true=>akH 5
 |true,false=>⟨[.arr 3 kI (akS (tx L l t f) L L.length) true true],.bF [.a (.sl 0 [] 0 (akS (tx L l t f) L L.length).length),.a (vI 0)]⟩
def awr:au:=al5 (fun L _ _ _=>[(aa.of (L.length<=1000000))]) amF
noncomputable def asw:List (Nat×au):=[(54,aBa),(57,alk),(103,xz)]
theorem asx:aR Try.prog Γ asw:=(((aR.nil.cons (aj Try.func103 rfl rfl).fn zQ).cons (aj Try.func57 rfl rfl).fn akY).cons (aj Try.func54 rfl rfl).fn fQ)
noncomputable def aqG:List (Nat×Body):=[(82,bo Try.f82),(84,bo Try.f84)]
theorem arJ:bq Try.prog aqG:=((bq.nil.cons (cg Try.func84 rfl rfl)).cons (cg Try.func82 rfl rfl))
noncomputable def awB:Env:={jV.env asw aqG false 0 with htr:=awU}
theorem ar5:aL Try.prog Γ awB:=(aP asx arJ false 0).NA _
theorem arQ:au.Ok Try.prog Γ 45 awr:=amN (d:=4) ar5 (aj Try.func45 rfl rfl) (by
 intro L l t f K ⟨hL,_⟩ hK;simp only[aa.ae]at hL;have hone:=akP L l t f;unfold amF at hK;cases h0:bf L l t f==0
 ·rw[h0]at hK;dsimp only[akH]at hK;have e0:(lu L [(l,t,f)]!=0)=true:=by rw[hone];unfold bne;rw[h0];rfl
  rw[<-hone]at hK;repeat'((conv=>whnf);first|apply And.intro|exact bA (by subst_vars;assumption)|intro h9)
  all_goals(try(conv=>whnf))<;>(subst_vars;try first|(apply Tk.mk;kernel_rfl)|exact⟨ah rfl⟩|exact⟨rfl⟩|exact⟨trivial⟩|rfl|contradiction|(apply Ob.mk;(try simp only[ag,ak,aa.ae])<;>(try dsimp only)<;>omega))
  all_goals first
   |(refine bu.base ⟨_,[],hK,trivial,rfl,?_⟩;(repeat'((conv=>whnf);(first|apply And.intro|intro _)));all_goals first|rfl|trivial)
   |exact⟨hL⟩
 rw[h0]at hK;have e0:(lu L [(l,t,f)]!=0)=false:=by rw[hone];unfold bne;rw[h0];rfl
 obtain⟨hB,hw⟩:=gg (eq_of_beq h0);obtain⟨hl,ht,hf⟩:=wE hw;have hn:=hB.Kg;have jJ:-1152921504606846976<=l/\l<=1152921504606846976:=by omega
 have UW:0<=t/\t<=1152921504606846976:=by omega
 cases h1:kG f (l-t+f) (l+t+f) L==0
 ·rw[h1]at hK;dsimp only at hK;have aoU:=avd (tx L l t f) L;have azW:(akS (tx L l t f) L 0).length=0:=by rw[aoU];rfl
  repeat'((conv=>whnf);first|apply And.intro|exact bA (by subst_vars;assumption)|intro h9)
  all_goals(try(conv=>whnf))<;>(subst_vars;try first|(apply Tk.mk;kernel_rfl)|exact⟨ah rfl⟩|exact⟨rfl⟩|exact⟨trivial⟩|rfl|contradiction|(apply Ob.mk;(try simp only[ag,ak,aa.ae])<;>(try dsimp only)<;>omega))
  all_goals try first|exact⟨hL⟩|exact⟨hB⟩
  refine⟨Nat,fun i=>i<=L.length,fun i=>⟨aI 53 [0,2,4,9,10,25,26,27] [.a (.sl 0 [] 0 L.length),.a (.fn 84 []),.a (.p 2 [] 0 0),.a (vI (kG f (l-t+f) (l+t+f) L)),.a (.sl 3 [] 0 (akS (tx L l t f) L i).length),.a (.sl 0 [] 0 L.length),.a (vI L.length),.a (vI i)],[aI 11 [] []],[.arr 67 kK L false false,.box true [vI l,vI t,vI f],.box true [vI l,vI t,vI f],.arr 3 kI (akS (tx L l t f) L i) true true]⟩,fun i=>L.length-i,0,[0,1,2,1000],Nat.zero_le _,?_,?_⟩
  ·repeat'((conv=>whnf)<;>first|apply And.intro|intro _|rfl|trivial|exact ah rfl|exact aS ‹_› rfl|exact aT ‹_› rfl|((repeat' first|rfl|constructor);done)|exact aoU|exact azW)
  rintro i hi;have DG:=awX (tx L l t f) L i;by_cases hi1:i<L.length
  ·have p0:decide ((i:Int)<(L.length:Int))=true:=decide_eq_true (by omega)
   have hst:=avc (tx L l t f) L i;rw[show bk L i=gr L i from(tb L i).symm]at hst;have hE:=ay6 L i;have Rn:0+0+(Int.toNat (i:Int)-0)<=L.length:=by omega
   have Nh:0+Int.toNat ((i:Int)+1)+(L.length-Int.toNat ((i:Int)+1))<=L.length:=by omega
   have ax0:gb (er L i):=by rw[hE];exact hB.erase i
   have hfl:(er L i).length<=1000000:=by have:=ax0.Kg;omega
   have akD:((akS (tx L l t f) L i).length+1)*1<=1099511627776:=by omega
   cases hq:kG f (l-t+f) (l+t+f) L==kG f (l-t+f) (l+t+f) (er L i)
   ·have AM:tx L l t f i=false:=by unfold tx;rw[<-hE];exact hq
    rw[AM]at hst;simp only[Bool.false_eq_true,if_false]at hst;repeat'((conv=>whnf);first|apply And.intro|exact bA (by subst_vars;assumption)|intro h9)
    all_goals(try(conv=>whnf))<;>(subst_vars;try first|(apply Tk.mk;kernel_rfl)|exact⟨ah rfl⟩|exact⟨rfl⟩|exact⟨trivial⟩|rfl|contradiction|(apply Ob.mk;(try simp only[ag,ak,aa.ae])<;>(try dsimp only)<;>omega))
    all_goals try first|trivial|exact⟨Rn⟩|exact⟨Nh⟩|exact⟨ax0⟩|exact⟨hfl⟩|exact⟨show 0+Int.toNat (i:Int)<L.length by omega⟩
    refine⟨i+1,[0,1,2,3],hi1,?_,by show L.length-(i+1)<L.length-i;omega⟩
    dsimp only;rw[hst];repeat'((conv=>whnf)<;>first|apply And.intro|intro _|rfl|trivial|exact ah rfl|exact aS ‹_› rfl|exact aT ‹_› rfl|((repeat' first|rfl|constructor);done))
   have AM:tx L l t f i=true:=by unfold tx;rw[<-hE];exact hq
   rw[AM]at hst;simp only[if_true]at hst;have amC:=congrArg List.length hst;rw[List.length_append,List.length_singleton]at amC;repeat'((conv=>whnf);first|apply And.intro|exact bA (by subst_vars;assumption)|intro h9)
   all_goals(try(conv=>whnf))<;>(subst_vars;try first|(apply Tk.mk;kernel_rfl)|exact⟨ah rfl⟩|exact⟨rfl⟩|exact⟨trivial⟩|rfl|contradiction|(apply Ob.mk;(try simp only[ag,ak,aa.ae])<;>(try dsimp only)<;>omega))
   all_goals try first|trivial|exact⟨Rn⟩|exact⟨Nh⟩|exact⟨ax0⟩|exact⟨hfl⟩|exact⟨akD⟩|exact⟨Nat.zero_add _⟩|exact⟨show 0+Int.toNat (i:Int)<L.length by omega⟩
   refine⟨i+1,[0,1,2,3],hi1,?_,by show L.length-(i+1)<L.length-i;omega⟩
   repeat'((conv=>whnf)<;>first|apply And.intro|intro _|rfl|trivial|exact ah rfl|exact aS ‹_› rfl|exact aT ‹_› rfl|((repeat' first|rfl|constructor);done)|exact amC.symm|exact⟨rfl,rfl,hst.symm⟩)
  have p0:decide ((i:Int)<(L.length:Int))=false:=decide_eq_false (by omega)
  have amB:i=L.length:=by omega
  rw[<-amB]at hK;clear amB;repeat'((conv=>whnf);first|apply And.intro|exact bA (by subst_vars;assumption)|intro h9)
  all_goals(try(conv=>whnf))<;>(subst_vars;try first|(apply Tk.mk;kernel_rfl)|exact⟨ah rfl⟩|exact⟨rfl⟩|exact⟨trivial⟩|rfl|contradiction|(apply Ob.mk;(try simp only[ag,ak,aa.ae])<;>(try dsimp only)<;>omega))
  refine bu.base ⟨_,[3],hK,⟨rfl,rfl,by simp,trivial⟩,rfl,?_⟩
  repeat'((conv=>whnf)<;>first|apply And.intro|intro _|rfl|trivial)
 rw[h1]at hK;dsimp only[akH]at hK;repeat'((conv=>whnf);first|apply And.intro|exact bA (by subst_vars;assumption)|intro h9)
 all_goals(try(conv=>whnf))<;>(subst_vars;try first|(apply Tk.mk;kernel_rfl)|exact⟨ah rfl⟩|exact⟨rfl⟩|exact⟨trivial⟩|rfl|contradiction|(apply Ob.mk;(try simp only[ag,ak,aa.ae])<;>(try dsimp only)<;>omega))
 all_goals first
  |(refine bu.base ⟨_,[],hK,trivial,rfl,?_⟩;(repeat'((conv=>whnf);(first|apply And.intro|intro _)));all_goals first|rfl|trivial)
  |exact⟨hL⟩
  |exact⟨hB⟩)
end Go.Proofs.Ytccnimhgjjnmoaa
end
section
namespace Go.Proofs.Ytccnimhgjjnmoaa
open Go Go.Sy Go.dg
variable {Γ:bn}
def an4 (D:List Bk->Int->Int->Int->List aa) (Rk:List Bk->Int->Int->Int->(cM->Prop)->Prop):au:=.new fun args rg K=>match args with
 |[.a x0,.agg [.v (.int .i64 n0),.v (.int .i64 n1),.v (.int .i64 n2)]]=>(match ac1 67 kK rg x0 with|some (q0,L0)=>aBP false (q0++(D L0 n0 n1 n2)) (Rk L0 n0 n1 n2 K)|_=>False)
 |_=>False
theorem ank {f:FuncId} {D:List Bk->Int->Int->Int->List aa} {R:List Bk->Int->Int->Int->cM} {Rk:List Bk->Int->Int->Int->(cM->Prop)->Prop} (h:au.Ok Try.prog Γ f (al5 D R)) (hk:∀ (L0:List Bk) (n0:Int) (n1:Int) (n2:Int) K,Rk L0 n0 n1 n2 K->K (R L0 n0 n1 n2)):au.Ok Try.prog Γ f (an4 D Rk):=by
 intro args rg K hC;refine h args rg K ?_
 (try unfold an4 at hC)
 (try unfold al5)
 (try dsimp only at hC ⊢)
 split at hC;next x0 n0 n1 n2=>
  split at hC;next q0 L0 hx0=>
   (try dsimp only)
   (try simp only[hx0])
   rw[aV]at hC ⊢;exact⟨hC.1,hk _ _ _ _ K hC.2⟩
  next=>exact hC.elim
 next=>exact hC.elim
def ap4 (D:List Bk->Int->Int->List aa) (Rk:List Bk->Int->Int->(cM->Prop)->Prop):au:=.new fun args rg K=>match args with
 |[.a x0,.a (.v (.int .i64 n0)),.a (.v (.int .i64 n1))]=>(match ac1 67 kK rg x0 with|some (q0,L0)=>aBP false (q0++(D L0 n0 n1)) (Rk L0 n0 n1 K)|_=>False)
 |_=>False
theorem atF {f:FuncId} {D:List Bk->Int->Int->List aa} {R:List Bk->Int->Int->cM} {Rk:List Bk->Int->Int->(cM->Prop)->Prop} (h:au.Ok Try.prog Γ f (apg D R)) (hk:∀ (L0:List Bk) (n0:Int) (n1:Int) K,Rk L0 n0 n1 K->K (R L0 n0 n1)):au.Ok Try.prog Γ f (ap4 D Rk):=by
 intro args rg K hC;refine h args rg K ?_
 (try unfold ap4 at hC)
 (try unfold apg)
 (try dsimp only at hC ⊢)
 split at hC;next x0 n0 n1=>
  split at hC;next q0 L0 hx0=>
   (try dsimp only)
   (try simp only[hx0])
   rw[aV]at hC ⊢;exact⟨hC.1,hk _ _ _ K hC.2⟩
  next=>exact hC.elim
 next=>exact hC.elim
attribute [local irreducible] ck wN sub e7 ta kG adp x6 pw eg gf akv kB gm
theorem aq8 (L:List Bk) (u:Nat):pw L (idx L.length 0 u)=eg L u:=by
 unfold pw;rw[<-avb L u];refine List.map_congr_left fun z hz=>?_
 have:=amE L.length 0 u z hz;obtain⟨k,rfl⟩:∃ k:Nat,z=k:=⟨z.toNat,by omega⟩
 rw[tb,Int.toNat_natCast]
abbrev gN (l t f:Int) (L:List Bk):Nat:=(gf l t f L).length
def auF (L:List Bk) (l t f:Int):Tm:=.bF [.a (vI (if bf L l t f=0 then(gN l t f L:Int)else 0)),.a (vI (bf L l t f))]
def alU:au:=anQ (fun L _ _ _=>[(aa.of (L.length<=1000000))]) auF
theorem awy (L:List Bk) (l t f:Int):auF L l t f= .bF [.a (vI (if bf L l t f=0 then kG f (l-t+f) (l+t+f) L else 0)),.a (vI (bf L l t f))]:=by
 unfold auF;by_cases h:bf L l t f=0
 ·obtain⟨hB,hw⟩:=gg h;obtain⟨hl,ht,hf⟩:=wE hw;rw[if_pos h,if_pos h,alD L (by omega)]
 ·rw[if_neg h,if_neg h]
theorem an2:au.Ok Try.prog Γ 23 alU:=by
 have:alU=aoh:=by unfold alU aoh;congr;funext L l t f;exact awy L l t f
 rw[this];exact arN
def ap3:au:=an4 (fun L _ _ _=>[(aa.of (L.length<=1000000))]) (fun L l t f K=>((bf L l t f==0)=false->K (akH (bf L l t f)))/\((bf L l t f==0)=true->((gN l t f L:Int)==0)=true->K (akH 5))/\
 ((bf L l t f==0)=true->((gN l t f L:Int)==0)=false->K ⟨[.arr 3 kI (eg L (aku l t f L)) true true],.bF [.a (.sl 0 [] 0 (eg L (aku l t f L)).length),.a (vI 0)]⟩))
theorem amQ {l t f:Int} {L:List Bk}:((gN l t f L:Int)==0)=true<->gf l t f L=[]:=by
 rw[beq_iff_eq];constructor
 ·intro h;have h:((gf l t f L).length:Int)=0:=h;exact List.eq_nil_of_length_eq_zero (by omega)
 ·intro h;unfold gN;rw[h];rfl
theorem amP {l t f:Int} {L:List Bk} (h:((gN l t f L:Int)==0)=false):gf l t f L≠[]:=fun e=>by
 rw[amQ.2 e]at h;cases h
theorem aoY:au.Ok Try.prog Γ 22 ap3:=ank asT (by
 intro L l t f K ⟨h1,h2,h3⟩;unfold ayB;cases h0:bf L l t f==0
 ·exact h1 h0
 dsimp only;obtain⟨hB,hw⟩:=gg (eq_of_beq h0);obtain⟨hl,ht,hf⟩:=wE hw;cases hg:((gN l t f L:Int)==0)
 ·have:=(aop (amP hg)).2;rw[this];dsimp only;rw[aq8];exact h3 h0 hg
 ·rw[apP (by omega) ((au0 (by omega)).2 (amQ.1 hg))]
  exact h2 h0 hg)
def amG:au:=an4 (fun L _ _ _=>[(aa.of (L.length<=1000000))]) (fun L l t f K=>((bf L l t f==0)=false->K (al3 (bf L l t f)))/\((bf L l t f==0)=true->((L.length:Int)==0)=true->K (al3 5))/\
 ((bf L l t f==0)=true->((L.length:Int)==0)=false->K ⟨[.arr 3 kI (eg L (x9 l f L)) true true],.bF [.a (.sl 0 [] 0 (eg L (x9 l f L)).length),.a (vI (wN f L (x9 l f L)-f-l)),.a (vI 0)]⟩))
theorem amH:au.Ok Try.prog Γ 24 amG:=ank apz (by
 intro L l t f K ⟨h1,h2,h3⟩;unfold asl;cases h0:bf L l t f==0
 ·exact h1 h0
 obtain⟨hB,hw⟩:=gg (eq_of_beq h0);obtain⟨hl,ht,hf⟩:=wE hw;cases hg:((L.length:Int)==0)
 ·obtain⟨-,-,h5,-,-⟩:=atN (l:=l) hf.1 hB.lens (asj hg);dsimp only;rw[h5];dsimp only;rw[aq8];exact h3 h0 hg
 ·exact h2 h0 hg)
def arf:au:=an4 (fun L _ _ _=>[(aa.of (L.length<=1000000))]) (fun L l t f K=>((bf L l t f==0)=false->K (akH (bf L l t f)))/\((bf L l t f==0)=true->((gN l t f L:Int)==0)=true->K (akH 5))/\
 ((bf L l t f==0)=true->((gN l t f L:Int)==0)=false->K ⟨[.arr 3 kI (akS (tx L l t f) L L.length) true true],.bF [.a (.sl 0 [] 0 (akS (tx L l t f) L L.length).length),.a (vI 0)]⟩))
theorem ash:au.Ok Try.prog Γ 45 arf:=ank arQ (by
 intro L l t f K ⟨h1,h2,h3⟩;unfold amF;cases h0:bf L l t f==0
 ·exact h1 h0
 obtain⟨hB,hw⟩:=gg (eq_of_beq h0);obtain⟨hl,ht,hf⟩:=wE hw;rw[alD L (by omega)]
 cases hg:((gN l t f L:Int)==0)
 ·exact h3 h0 hg
 ·exact h2 h0 hg)
def aoX:au:=ap4 (fun L _ _=>[(aa.of (L.length<=1000000))]) (fun L f k K=>(((ck L).1==0)=false->K (ak8 (ck L).1))/\(((ck L).1==0)=true->(aQ f 0 1000000&&aQ k 1 20)=false->K (ak8 1))/\
 (((ck L).1==0)=true->(aQ f 0 1000000&&aQ k 1 20)=true->decide ((y7 f L k.toNat).length<=1000)=false->K (ak8 2))/\
 (((ck L).1==0)=true->(aQ f 0 1000000&&aQ k 1 20)=true->decide ((y7 f L k.toNat).length<=1000)=true->K ⟨[.arr 3 kI (y7 f L k.toNat) true true],.bF [.a (.sl 0 [] 0 (y7 f L k.toNat).length),.a (vI 0)]⟩))
theorem ap2:au.Ok Try.prog Γ 36 aoX:=atF apy (by
 intro L f k K ⟨h1,h2,h3,h4⟩;unfold avh;cases h0:(ck L).1==0
 ·exact h1 h0
 cases hg:aQ f 0 1000000&&aQ k 1 20
 ·exact h2 h0 hg
 dsimp only;cases hd:decide ((y7 f L k.toNat).length<=1000)
 ·exact h3 h0 hg hd
 ·exact h4 h0 hg hd)
end Go.Proofs.Ytccnimhgjjnmoaa
end
section
namespace Go.Proofs.Ytccnimhgjjnmoaa
open Go Go.Sy Go.dg
variable {Γ:bn}
def ayJ (D:List Bk->Int->Int->Int->List aa) (R:List Bk->Int->Int->Int->(cM->Prop)->Prop):au:=.new fun args rg K=>match args with
 |[.a x0,.agg [.v (.int .i64 n0),.v (.int .i64 n1),.v (.int .i64 n2)]]=>(match ac1 67 kK rg x0 with|some (q0,L0)=>aBP false (q0++(D L0 n0 n1 n2)) (R L0 n0 n1 n2 K)|_=>False)
 |_=>False
theorem aw4 {f:FuncId} {b:Body} {E:Env} {d:Nat} (hP:aL Try.prog Γ E) (hb:bQ Try.prog f b) {D:List Bk->Int->Int->Int->List aa} {R:List Bk->Int->Int->Int->(cM->Prop)->Prop}
 (H:∀ (L0:List Bk) (n0:Int) (n1:Int) (n2:Int) (K:cM->Prop),bW (D L0 n0 n1 n2)->R L0 n0 n1 n2 K->cQ E d b [.a (.sl 0 [] 0 L0.length),.agg [vI n0,vI n1,vI n2]] [.arr 67 kK L0 false false] (bu K)):au.Ok Try.prog Γ f (ayJ D R):=au.fM (d:=d) hP hb (by
 intro args rg K hF;split at hF;next x0 n0 n1 n2=>
  split at hF;next q0 L0 hx0=>
   rw[aV,aH]at hF;obtain⟨⟨aIh,hD⟩,hK⟩:=hF;obtain⟨e0,Vn⟩:=bP (by simp[kK]) hx0 aIh
   obtain⟨p0,r0⟩:=Vn [e0] 0 1 rfl (by omega)
   refine⟨[e0],[.a (.sl 0 [] 0 L0.length),.agg [vI n0,vI n1,vI n2]],[.arr 67 kK L0 false false],⟨⟨p0,⟨rfl,rfl,rfl,trivial⟩,trivial⟩,fun r g hg=>?_⟩,bu K,H _ _ _ _ K hD hK,fun x st h=>h⟩
   match r,hg with
   |0,hg=>obtain rfl:=Option.some.inj hg;exact r0
  next=>exact hF.elim
 next=>exact hF.elim)
def akT (X Y R:List Int) (l t f:Int) (F:List Int):List Int:=F.map (fun a=>(R.countP (qD X Y a l t f):Int))
theorem avt {X Y R F:List Int} {l t f:Int} {i:Nat} (h:i<F.length):akT X Y R l t f (F.take (i+1))=akT X Y R l t f (F.take i)++[((R.countP (qD X Y (ca F i) l t f):Nat):Int)]:=by
 unfold akT;rw[List.take_succ_eq_append_getElem h,List.map_append,kX,Sh h];rfl
theorem amS (X Y R F:List Int) (l t f:Int):(akT X Y R l t f F).length=F.length:=List.length_map _
theorem avu (X Y R F:List Int) (l t f:Int):akT X Y R l t f (F.take 0)=[]:=rfl
attribute [local irreducible] ck wN sub e7 kG cw akT gf
def ape (e:Int):cM:=⟨[],.bF [.agg [.v (.slice none 0 0),.v (.slice none 0 0),.v (.slice none 0 0)],.a (vI e)]⟩
def axD (L:List Bk) (l t f:Int) (K:cM->Prop):Prop:=((bf L l t f==0)=false->K (ape (bf L l t f)))/\((bf L l t f==0)=true->((gN l t f L:Int)==0)=false->K (ape 5))/\
 ((bf L l t f==0)=true->((gN l t f L:Int)==0)=true->∀ F R,Lk (WA f L) F->Lk (WB f L) R->K ⟨[.arr 3 kI F true true,.arr 3 kI R true true,.arr 3 kI (akT (WA f L) (WB f L) R l t f F) true true],.bF [.agg [.sl 0 [] 0 F.length,.sl 1 [] 0 R.length,.sl 2 [] 0 F.length],.a (vI 0)]⟩)
def ax7 (id:Nat):Option (Nat×OT):=match Nat.beq id 7 with|true=>some (10,(.take 0 (.take 1 (.take 2 (.take 4 (.take 5 (.take 6 (.alt 3 (.alt 7 (.take 8 (.alt 9 .fin .fin)) (.alt 9 (.alt 7 (.take 8 .fin) .fin) .fin)) (.alt 9 (.alt 3 (.alt 7 (.take 8 .fin) .fin) .fin) .fin)))))))))|false=>match Nat.beq id 8 with|true=>some (10,(.take 0 (.take 1 (.take 2 (.take 4 (.take 5 (.take 6 (.alt 3 (.alt 7 (.alt 8 (.alt 9 .fin .fin) (.alt 9 (.alt 8 .fin .fin) .fin)) (.alt 8 (.alt 7 (.alt 9 .fin .fin) (.alt 9 (.alt 7 .fin .fin) .fin)) (.alt 9 (.alt 7 (.alt 8 .fin .fin) (.alt 8 (.alt 7 .fin .fin) .fin)) .fin))) (.alt 8 (.alt 3 (.alt 7 (.alt 9 .fin .fin) (.alt 9 (.alt 7 .fin .fin) .fin)) (.alt 9 (.alt 3 (.alt 7 .fin .fin) .fin) .fin)) (.alt 9 (.alt 3 (.alt 7 (.alt 8 .fin .fin) (.alt 8 (.alt 7 .fin .fin) .fin)) (.alt 8 (.alt 3 (.alt 7 .fin .fin) .fin) .fin)) .fin))))))))))|false=>none
noncomputable def avB:List (Nat×au):=[(54,aBa),(57,alk),(74,asZ),(75,akQ),(76,aqO)]
theorem aue:aR Try.prog Γ avB:=(((((aR.nil.cons (aj Try.func76 rfl rfl).fn arV).cons (aj Try.func75 rfl rfl).fn Wk).cons (aj Try.func74 rfl rfl).fn as0).cons (aj Try.func57 rfl rfl).fn akY).cons (aj Try.func54 rfl rfl).fn fQ)
noncomputable def asO:List (Nat×Body):=[(73,bo Try.f73)]
theorem asP:bq Try.prog asO:=(bq.nil.cons (cg Try.func73 rfl rfl))
noncomputable def aqV:Env:={jV.env avB asO false 0 with htr:=ax7}
theorem ar4:aL Try.prog Γ aqV:=(aP aue asP false 0).NA _
noncomputable def axG:Env:={aqV with cut:=fun t=>match Nat.beq t 2007 with|true=>true|false=>Nat.beq t 2008}
theorem as7:aL Try.prog Γ axG:=ar4.aBf _
def asQ:au:=ayJ (fun L _ _ _=>[(aa.of (L.length<=1000000))]) axD
theorem asR:au.Ok Try.prog Γ 39 asQ:=aw4 (d:=4) as7 (aj Try.func39 rfl rfl) (by
 intro L l t f K ⟨hL,_⟩ hK;simp only[aa.ae]at hL;have hone:=akP L l t f;unfold axD at hK;obtain⟨am3,afI,amz⟩:=hK;cases h0:bf L l t f==0
 ·have hK:=am3 h0;unfold ape at hK;have e0:(lu L [(l,t,f)]!=0)=true:=by rw[hone];unfold bne;rw[h0];rfl
  rw[<-hone]at hK;clear am3 afI amz;repeat'((conv=>whnf);first|apply And.intro|exact bA (by subst_vars;assumption)|intro h9)
  all_goals(try(conv=>whnf))<;>(subst_vars;try first|(apply Tk.mk;kernel_rfl)|exact⟨ah rfl⟩|exact⟨rfl⟩|exact⟨trivial⟩|rfl|contradiction|(apply Ob.mk;(try simp only[ag,ak,aa.ae])<;>(try dsimp only)<;>omega))
  all_goals first
   |(refine bu.base ⟨_,[],hK,trivial,rfl,?_⟩;(repeat'((conv=>whnf);(first|apply And.intro|intro _)));all_goals first|rfl|trivial)
   |exact⟨hL⟩
 have e0:(lu L [(l,t,f)]!=0)=false:=by rw[hone];unfold bne;rw[h0];rfl
 obtain⟨hB,hw⟩:=gg (eq_of_beq h0);obtain⟨hl,ht,hf⟩:=wE hw;have jJ:-1152921504606846976<=l/\l<=1152921504606846976:=by omega
 have UW:0<=t/\t<=1152921504606846976:=by omega
 have avV:=alD (f:=f) (l:=l) (t:=t) L (by omega)
 cases hg:((gN l t f L:Int)==0)
 ·have hK:=afI h0 hg;unfold ape at hK;have p0:decide (kG f (l-t+f) (l+t+f) L>0)=true:=decide_eq_true (by
   rw[avV];have:¬((gN l t f L:Int)=0):=by simpa using hg
   show((gN l t f L:Nat):Int)>0;omega)
  clear am3 afI amz avV;repeat'((conv=>whnf);first|apply And.intro|exact bA (by subst_vars;assumption)|intro h9)
  all_goals(try(conv=>whnf))<;>(subst_vars;try first|(apply Tk.mk;kernel_rfl)|exact⟨ah rfl⟩|exact⟨rfl⟩|exact⟨trivial⟩|rfl|contradiction|(apply Ob.mk;(try simp only[ag,ak,aa.ae])<;>(try dsimp only)<;>omega))
  all_goals first
   |(refine bu.base ⟨_,[],hK,trivial,rfl,?_⟩;(repeat'((conv=>whnf);(first|apply And.intro|intro _)));all_goals first|rfl|trivial)
   |exact⟨hL⟩
   |exact⟨hB⟩
 have hK:=amz h0 hg;have p0:decide (kG f (l-t+f) (l+t+f) L>0)=false:=decide_eq_false (by
  rw[avV];have:(gN l t f L:Int)=0:=eq_of_beq hg;show ¬((gN l t f L:Nat):Int)>0;omega)
 clear am3 afI amz avV;have hn:=hB.Kg;have hc:=anC L.length;have akB:0+gv L.length<=L.length:=by show 0+gv L.length<=L.length;have:=hc.1;show 0+Int.toNat _<=_;omega
 have akC:(0+gv L.length)+(L.length-gv L.length)<=L.length:=by have:=hc.1;show 0+Int.toNat _+(_-Int.toNat _)<=_;omega
 have au4:gv L.length<=10:=hc.2.1;have au5:L.length-gv L.length<=10:=hc.2.2 hn;have ama:(WB f L).length=2^(L.length-gv L.length):=by show(e7 f (sub L (0+gv L.length) (L.length-gv L.length))).length=_;rw[x7,wk akC]
 have al9:(WA f L).length=2^gv L.length:=by show(e7 f (sub L 0 (gv L.length))).length=_;rw[x7,wk akB]
 have asd:(WB f L).length<=1024:=by rw[ama];exact Nat.le_trans (Nat.pow_le_pow_right (by omega) au5) (by decide)
 have au1:(WA f L).length<=1024:=by rw[al9];exact Nat.le_trans (Nat.pow_le_pow_right (by omega) au4) (by decide)
 have aq6:=ali hB akB hf;have PU:=ali hB akC hf;clear ama al9;repeat'((conv=>whnf);first|apply And.intro|exact bA (by subst_vars;assumption)|intro h9)
 all_goals(try(conv=>whnf))<;>(subst_vars;try first|(apply Tk.mk;kernel_rfl)|exact⟨ah rfl⟩|exact⟨rfl⟩|exact⟨trivial⟩|rfl|contradiction|(apply Ob.mk;(try simp only[ag,ak,aa.ae])<;>(try dsimp only)<;>omega))
 all_goals try first|exact⟨hL⟩|exact⟨hB⟩
 refine⟨List Int×List Int,fun x=>Lk (WA f L) x.1/\Lk (WB f L) x.2,fun|(F,R)=>⟨aI 67 [3,4,7,8,9] [.a (.p 1 [] 0 0),.a (.p 2 [] 0 0),.a (.sl 0 [] 0 (gv L.length)),.a (.sl 0 [] (0+gv L.length) (L.length-gv L.length)),.a (.p 5 [] 0 0)],[],[.arr 67 kK L false false,.box true [vI l,vI t,vI f],.box true [.v (.slice none 0 0),.v (.slice none 0 0),.v (.slice none 0 0)],.arr 3 kI F true true,.arr 3 kI R true true,.box true [.sl 3 [] 0 F.length,.sl 4 [] 0 R.length,.v (.slice none 0 0)]]⟩,?_,?_⟩
 ·repeat'((conv=>whnf);first|apply And.intro|exact bA (by subst_vars;assumption)|intro h9)
  all_goals(try(conv=>whnf))<;>(subst_vars;try first|(apply Tk.mk;kernel_rfl)|exact⟨ah rfl⟩|exact⟨rfl⟩|exact⟨trivial⟩|rfl|contradiction|(apply Ob.mk;(try simp only[ag,ak,aa.ae])<;>(try dsimp only)<;>omega))
  all_goals try first|trivial|exact⟨hB⟩|exact⟨akB⟩|exact⟨akC⟩
  all_goals rename_i S1 h1 S2
  all_goals first
   |(refine⟨(S1,S2),[0,1,2,4,5,6],⟨h1,h9⟩,?_⟩;(repeat'((conv=>whnf);(first|apply And.intro|intro _)));(all_goals first|rfl|trivial|exact ah rfl|exact⟨rfl,rfl,rfl⟩|exact⟨rfl,rfl⟩|(rename_i r9 bx;revert r9;decide));done)
   |(refine⟨(S1,S2),[0,1,2,4,6,5],⟨h1,h9⟩,?_⟩;(repeat'((conv=>whnf);(first|apply And.intro|intro _)));(all_goals first|rfl|trivial|exact ah rfl|exact⟨rfl,rfl,rfl⟩|exact⟨rfl,rfl⟩|(rename_i r9 bx;revert r9;decide));done)
   |(refine⟨(S1,S2),[0,1,2,5,6,4],⟨h1,h9⟩,?_⟩;(repeat'((conv=>whnf);(first|apply And.intro|intro _)));(all_goals first|rfl|trivial|exact ah rfl|exact⟨rfl,rfl,rfl⟩|exact⟨rfl,rfl⟩|(rename_i r9 bx;revert r9;decide));done)
 rintro⟨F,R⟩ ⟨amj,amk⟩;dsimp only at amj amk;repeat'((conv=>whnf);first|apply And.intro|exact bA (by subst_vars;assumption)|intro h9)
 all_goals(try(conv=>whnf))<;>(subst_vars;try first|(apply Tk.mk;kernel_rfl)|exact⟨ah rfl⟩|exact⟨rfl⟩|exact⟨trivial⟩|rfl|contradiction|(apply Ob.mk;(try simp only[ag,ak,aa.ae])<;>(try dsimp only)<;>omega))
 refine⟨Unit,fun _=>True,fun _=>⟨aI 67 [3,4,9,10,11] [.a (.p 1 [] 0 0),.a (.p 2 [] 0 0),.a (.p 5 [] 0 0),.a (.p 8 [] 0 0),.a (.p 9 [] 0 0)],[],[.arr 67 kK L false false,.box true [vI l,vI t,vI f],.box true [.v (.slice none 0 0),.v (.slice none 0 0),.v (.slice none 0 0)],.arr 3 kI F true true,.arr 3 kI R true true,.box true [.sl 3 [] 0 F.length,.sl 4 [] 0 R.length,.v (.slice none 0 0)],.arr 3 kI (WA f L) true true,.arr 3 kI (WB f L) true true,.box true [.sl 6 [] 0 (WA f L).length],.box true [.sl 7 [] 0 (WB f L).length]]⟩,?_,?_⟩
 ·repeat'((conv=>whnf);first|apply And.intro|exact bA (by subst_vars;assumption)|intro h9)
  all_goals(try(conv=>whnf))<;>(subst_vars;try first|(apply Tk.mk;kernel_rfl)|exact⟨ah rfl⟩|exact⟨rfl⟩|exact⟨trivial⟩|rfl|contradiction|(apply Ob.mk;(try simp only[ag,ak,aa.ae])<;>(try dsimp only)<;>omega))
  all_goals try first|trivial|exact⟨hB⟩|exact⟨akB⟩|exact⟨akC⟩
  all_goals first
   |(refine⟨(),[0,1,2,3,4,5,6,7,8,9],trivial,?_⟩;(repeat'((conv=>whnf);(first|apply And.intro|intro _)));(all_goals first|rfl|trivial|exact ah rfl|exact⟨rfl,rfl,rfl⟩|exact⟨rfl,rfl⟩|(rename_i r9 bx;revert r9;decide));done)
   |(refine⟨(),[0,1,2,3,4,5,6,7,9,8],trivial,?_⟩;(repeat'((conv=>whnf);(first|apply And.intro|intro _)));(all_goals first|rfl|trivial|exact ah rfl|exact⟨rfl,rfl,rfl⟩|exact⟨rfl,rfl⟩|(rename_i r9 bx;revert r9;decide));done)
   |(refine⟨(),[0,1,2,3,4,5,6,8,7,9],trivial,?_⟩;(repeat'((conv=>whnf);(first|apply And.intro|intro _)));(all_goals first|rfl|trivial|exact ah rfl|exact⟨rfl,rfl,rfl⟩|exact⟨rfl,rfl⟩|(rename_i r9 bx;revert r9;decide));done)
   |(refine⟨(),[0,1,2,3,4,5,6,8,9,7],trivial,?_⟩;(repeat'((conv=>whnf);(first|apply And.intro|intro _)));(all_goals first|rfl|trivial|exact ah rfl|exact⟨rfl,rfl,rfl⟩|exact⟨rfl,rfl⟩|(rename_i r9 bx;revert r9;decide));done)
   |(refine⟨(),[0,1,2,3,4,5,6,9,7,8],trivial,?_⟩;(repeat'((conv=>whnf);(first|apply And.intro|intro _)));(all_goals first|rfl|trivial|exact ah rfl|exact⟨rfl,rfl,rfl⟩|exact⟨rfl,rfl⟩|(rename_i r9 bx;revert r9;decide));done)
   |(refine⟨(),[0,1,2,3,4,5,6,9,8,7],trivial,?_⟩;(repeat'((conv=>whnf);(first|apply And.intro|intro _)));(all_goals first|rfl|trivial|exact ah rfl|exact⟨rfl,rfl,rfl⟩|exact⟨rfl,rfl⟩|(rename_i r9 bx;revert r9;decide));done)
   |(refine⟨(),[0,1,2,3,4,5,7,8,6,9],trivial,?_⟩;(repeat'((conv=>whnf);(first|apply And.intro|intro _)));(all_goals first|rfl|trivial|exact ah rfl|exact⟨rfl,rfl,rfl⟩|exact⟨rfl,rfl⟩|(rename_i r9 bx;revert r9;decide));done)
   |(refine⟨(),[0,1,2,3,4,5,7,8,9,6],trivial,?_⟩;(repeat'((conv=>whnf);(first|apply And.intro|intro _)));(all_goals first|rfl|trivial|exact ah rfl|exact⟨rfl,rfl,rfl⟩|exact⟨rfl,rfl⟩|(rename_i r9 bx;revert r9;decide));done)
   |(refine⟨(),[0,1,2,3,4,5,7,9,6,8],trivial,?_⟩;(repeat'((conv=>whnf);(first|apply And.intro|intro _)));(all_goals first|rfl|trivial|exact ah rfl|exact⟨rfl,rfl,rfl⟩|exact⟨rfl,rfl⟩|(rename_i r9 bx;revert r9;decide));done)
   |(refine⟨(),[0,1,2,3,4,5,7,9,8,6],trivial,?_⟩;(repeat'((conv=>whnf);(first|apply And.intro|intro _)));(all_goals first|rfl|trivial|exact ah rfl|exact⟨rfl,rfl,rfl⟩|exact⟨rfl,rfl⟩|(rename_i r9 bx;revert r9;decide));done)
   |(refine⟨(),[0,1,2,3,4,5,8,9,6,7],trivial,?_⟩;(repeat'((conv=>whnf);(first|apply And.intro|intro _)));(all_goals first|rfl|trivial|exact ah rfl|exact⟨rfl,rfl,rfl⟩|exact⟨rfl,rfl⟩|(rename_i r9 bx;revert r9;decide));done)
   |(refine⟨(),[0,1,2,3,4,5,8,9,7,6],trivial,?_⟩;(repeat'((conv=>whnf);(first|apply And.intro|intro _)));(all_goals first|rfl|trivial|exact ah rfl|exact⟨rfl,rfl,rfl⟩|exact⟨rfl,rfl⟩|(rename_i r9 bx;revert r9;decide));done)
 rintro _ _;have Si:=amj.len;have am4:=amk.len;have hz:=avu (WA f L) (WB f L) R F l t f;repeat'((conv=>whnf);first|apply And.intro|exact bA (by subst_vars;assumption)|intro h9)
 all_goals(try(conv=>whnf))<;>(subst_vars;try first|(apply Tk.mk;kernel_rfl)|exact⟨ah rfl⟩|exact⟨rfl⟩|exact⟨trivial⟩|rfl|contradiction|(apply Ob.mk;(try simp only[ag,ak,aa.ae])<;>(try dsimp only)<;>omega))
 refine⟨Nat,fun i=>i<=F.length,fun i=>⟨aI 67 [3,4,9,10,11,50,51,52] [.a (.p 1 [] 0 0),.a (.p 2 [] 0 0),.a (.p 5 [] 0 0),.a (.p 8 [] 0 0),.a (.p 9 [] 0 0),.a (.sl 3 [] 0 F.length),.a (vI F.length),.a (vI i)],[],[.arr 67 kK L false false,.box true [vI l,vI t,vI f],.box true [.v (.slice none 0 0),.v (.slice none 0 0),.v (.slice none 0 0)],.arr 3 kI F true true,.arr 3 kI R true true,.box true [.sl 3 [] 0 F.length,.sl 4 [] 0 R.length,.sl 10 [] 0 i],.arr 3 kI (WA f L) true true,.arr 3 kI (WB f L) true true,.box true [.sl 6 [] 0 (WA f L).length],.box true [.sl 7 [] 0 (WB f L).length],.arr 3 kI (akT (WA f L) (WB f L) R l t f (F.take i)) true true]⟩,fun i=>F.length-i,0,[0,1,2,3,4,5,6,7,8,9,1000],Nat.zero_le _,?_,?_⟩
 ·repeat'((conv=>whnf);(first|apply And.intro|intro _))
  all_goals first|rfl|trivial|exact ah rfl|exact⟨rfl,rfl,rfl⟩|exact⟨rfl,rfl⟩|(rename_i r9 bx;revert r9;decide)|exact hz
 clear hz;intro i hi;have dZ:=And.intro (amS (WA f L) (WB f L) R (F.take i) l t f) trivial;rw[List.length_take,Nat.min_eq_left hi]at dZ;by_cases hi1:i<F.length
 ·have q0:decide ((i:Int)<(F.length:Int))=true:=decide_eq_true (by omega)
  have hst:=avt (X:=WA f L) (Y:=WB f L) (R:=R) (l:=l) (t:=t) (f:=f) hi1;have ayc:0<=ca F i/\ca F i<((WA f L).length:Int):=by
   rw[alf hi1];have hm:=amj.perm.mem_iff.1 (List.getElem_mem hi1);obtain⟨j,hj,he⟩:=List.mem_map.1 hm;have:=List.mem_range.1 hj;rw[<-he];exact⟨Int.natCast_nonneg j,by show(j:Int)<_;omega⟩
  have hP:apu (WA f L) (WB f L) R (ca F i) l t f:=⟨ayc,fun b hb=>by
   have hm:=amk.perm.mem_iff.1 hb;obtain⟨j,hj,rfl⟩:=List.mem_map.1 hm;have:=List.mem_range.1 hj;exact⟨Int.natCast_nonneg j,by show(j:Int)<_;omega⟩,aq6,PU,by rw[am4];exact amk.up,by omega,by omega,by omega,hf⟩
  have apZ:akT (WA f L) (WB f L) R l t f (F.take i)++[((R.countP (qD (WA f L) (WB f L) (ca F i) l t f):Nat):Int)]=akT (WA f L) (WB f L) R l t f (F.take (i+1)):=hst.symm;clear hst ayc;repeat'((conv=>whnf);first|apply And.intro|exact bA (by subst_vars;assumption)|intro h9)
  all_goals(try(conv=>whnf))<;>(subst_vars;try first|(apply Tk.mk;kernel_rfl)|exact⟨ah rfl⟩|exact⟨rfl⟩|exact⟨trivial⟩|rfl|contradiction|(apply Ob.mk;(try simp only[ag,ak,aa.ae])<;>(try dsimp only)<;>omega))
  all_goals try first|exact⟨hP⟩|exact⟨show 0+Int.toNat (i:Int)<F.length by omega⟩|exact⟨show 0+i=(akT (WA f L) (WB f L) R l t f (F.take i)).length by omega⟩|exact⟨show(i+1)*1<=1099511627776 by omega⟩
  all_goals
   refine⟨i+1,[0,1,2,3,4,5,6,7,8,9,10],hi1,?_,by show F.length-(i+1)<F.length-i;omega⟩
   repeat'((conv=>whnf);(first|apply And.intro|intro _))
   all_goals first|rfl|trivial|exact ah rfl|exact⟨rfl,rfl,rfl⟩|exact⟨rfl,rfl⟩|(rename_i r9 bx;revert r9;decide)|exact apZ|exact⟨rfl,rfl,apZ⟩
 have q0:decide ((i:Int)<(F.length:Int))=false:=decide_eq_false (by omega)
 obtain rfl:i=F.length:=by omega
 have ajV:akT (WA f L) (WB f L) R l t f F=akT (WA f L) (WB f L) R l t f (F.take F.length):=by rw[List.take_of_length_le (Nat.le_refl _)]
 have azp:=hK F R amj amk;rw[ajV]at azp;clear hK ajV Si am4;repeat'((conv=>whnf);first|apply And.intro|exact bA (by subst_vars;assumption)|intro h9)
 all_goals(try(conv=>whnf))<;>(subst_vars;try first|(apply Tk.mk;kernel_rfl)|exact⟨ah rfl⟩|exact⟨rfl⟩|exact⟨trivial⟩|rfl|contradiction|(apply Ob.mk;(try simp only[ag,ak,aa.ae])<;>(try dsimp only)<;>omega))
 refine bu.base ⟨_,[3,4,10],azp,⟨rfl,rfl,by simp,rfl,rfl,by simp,rfl,rfl,by simp,trivial⟩,rfl,?_⟩
 repeat'((conv=>whnf)<;>first|apply And.intro|intro _|rfl|trivial))
end Go.Proofs.Ytccnimhgjjnmoaa
end
section
namespace Go.Proofs.Ytccnimhgjjnmoaa
open Go Go.Sy Go.dg
variable {Γ:bn}
attribute [local irreducible] ck wN e7 cw aQ
def nD (F W:List Int) (i:Nat):Bool:=aQ (gA F i) 0 ((W.length:Int)-1)&&(!(F.take i).contains (gA F i)&&(decide (i=0)||!decide (cw W (gA F i)<cw W (gA F (i-1)))))
def Bf (F W:List Int):Bool:=decide (F.length=W.length)&&(List.range F.length).all (nD F W)
theorem axe {F W:List Int} (h:F.length≠W.length):Bf F W=false:=by unfold Bf;rw[decide_eq_false h];rfl
theorem aqk {F W:List Int} {i:Nat} (hi:i<F.length) (h:nD F W i=false):Bf F W=false:=by
 unfold Bf;rw[Bool.and_eq_false_iff];right;rw[Bool.eq_false_iff];intro h';rw[List.all_eq_true]at h';rw[h' i (List.mem_range.2 hi)]at h;cases h
theorem axf {F W:List Int} (hl:F.length=W.length) (h:∀ j,j<F.length->nD F W j=true):Bf F W=true:=by
 unfold Bf;rw[decide_eq_true hl,Bool.true_and,List.all_eq_true];exact fun j hj=>h j (List.mem_range.1 hj)
theorem amW {F W:List Int}:Bf F W=true<->F.length=W.length/\∀ j,j<F.length->nD F W j=true:=by
 unfold Bf;rw[Bool.and_eq_true,decide_eq_true_eq,List.all_eq_true];exact⟨fun⟨a,b⟩=>⟨a,fun j hj=>b j (List.mem_range.2 hj)⟩,fun⟨a,b⟩=>⟨a,fun j hj=>b j (List.mem_range.1 hj)⟩⟩
theorem an7 {F W:List Int} {i:Nat} (h:nD F W i=true):0<=gA F i/\gA F i<(W.length:Int):=by
 unfold nD at h;rw[Bool.and_eq_true]at h;have:=akk.1 h.1;omega
def seen (n:Nat) (l:List Int):List Bool:=(List.range n).map (fun k:Nat=>l.contains (k:Int))
theorem avp (n:Nat) (l:List Int):(seen n l).length=n:=by simp[seen]
theorem avq (n:Nat):List.replicate n false=seen n []:=by
 unfold seen;refine List.ext_getElem (by simp) fun i h1 h2=>by simp
theorem avo {n:Nat} {l:List Int} {x:Int} (h0:0<=x) (h:x<(n:Int)):(seen n l).getD x.toNat false=l.contains x:=by
 unfold seen;rw[List.getD_eq_getElem?_getD,List.getElem?_map,List.getElem?_range (by omega)]
 show l.contains ((x.toNat:Nat):Int)=_;rw[Int.toNat_of_nonneg h0]
theorem avr {n:Nat} {l:List Int} {x:Int} (h0:0<=x) (h:x<(n:Int)):(seen n l).set x.toNat true=seen n (l++[x]):=by
 refine List.ext_getElem (by simp[seen]) fun i h1 h2=>?_
 rw[List.getElem_set];simp only[seen,List.getElem_map,List.getElem_range];by_cases e:x.toNat=i
 ·rw[if_pos e];have:x=(i:Int):=by omega
  subst this;rw[eq_comm,List.contains_iff_mem];simp
 ·rw[if_neg e,Bool.eq_iff_iff,List.contains_iff_mem,List.contains_iff_mem,List.mem_append,List.mem_singleton];constructor
  ·exact .inl
  ·rintro(h|h)
   ·exact h
   ·exfalso;omega
attribute [local irreducible] seen nD Bf
abbrev azF:List CK:=[.bool]
abbrev avH (A:List Bool) (i:Int):Bool:=@Ar.get ⟨4,azF,A⟩ (0+Int.toNat i)
theorem axB (A:List Bool) (i:Int):avH A i=A.getD i.toNat false:=by unfold avH;rw[Nat.zero_add];rfl
def aqR:au:=PA (fun F W=>[(aa.of (F.length<=1000000)),(aa.of (W.length<=1000000))]) (fun F W=>bl (Bf F W))
noncomputable def axw:List (Nat×au):=[(67,gK)]
theorem asH:aR Try.prog Γ axw:=(aR.nil.cons (aj Try.func67 rfl rfl).fn fw)
theorem arY:au.Ok Try.prog Γ 78 aqR:=MK (d:=0) (aP asH bq.nil false 0) (aj Try.func78 rfl rfl) (fun _ _=>rfl) (by
 intro F W ⟨hF,hW,_⟩;simp only[aa.ae]at hF hW;cases h0:((F.length:Int)!=(W.length:Int))
 ·have hl:=atK h0;have hz:List.replicate (Int.toNat (W.length:Int)) false=seen W.length (F.take 0):=by rw[Int.toNat_natCast];exact avq _
  replace hl:F.length<=W.length/\W.length<=F.length:=by omega
  repeat'((conv=>whnf);first|apply And.intro|exact bA (by subst_vars;assumption)|intro h9)
  all_goals(try(conv=>whnf))<;>(subst_vars;try first|(apply Tk.mk;kernel_rfl)|exact⟨ah rfl⟩|exact⟨rfl⟩|exact⟨trivial⟩|rfl|contradiction|(apply Ob.mk;(try simp only[ag,ak,aa.ae])<;>(try dsimp only)<;>omega))
  all_goals try first|exact⟨show(W.length:Int)*1<=16777216 by omega⟩
  refine⟨Nat,fun i=>i<=F.length/\∀ j,j<i->nD F W j=true,fun i=>⟨aI 58 [0,1,5,16,17,18] [.a (.sl 0 [] 0 F.length),.a (.sl 1 [] 0 W.length),.a (.sl 2 [] 0 W.length),.a (.sl 0 [] 0 F.length),.a (vI F.length),.a (vI i)],[],[.arr 3 kI F false false,.arr 3 kI W false false,.arr 4 azF (seen W.length (F.take i)) true true]⟩,fun i=>F.length-i,0,[0,1,2],⟨Nat.zero_le _,fun j h=>absurd h (Nat.not_lt_zero j)⟩,?_,?_⟩
  ·repeat'((conv=>whnf);(first|apply And.intro|intro _))
   all_goals first|rfl|trivial|exact ah rfl|exact⟨rfl,rfl,rfl⟩|exact⟨rfl,rfl⟩|(rename_i r9 bx;revert r9;decide)|exact hz|exact⟨rfl,rfl,hz⟩
  clear hz;rintro i ⟨hi,hj⟩;have dZ:=And.intro (avp W.length (F.take i)) trivial;by_cases hi1:i<F.length
  ·have p0:decide ((i:Int)<(F.length:Int))=true:=decide_eq_true (by omega)
   have hg:=kX F i;cases h1:aQ (ca F i) 0 ((W.length:Int)-1)
   ·have q1:(!aQ (ca F i) 0 ((W.length:Int)-1))=true:=by rw[h1];rfl
    rw[aqk hi1 (by unfold nD;rw[<-hg,h1];rfl)]
    repeat'((conv=>whnf);first|apply And.intro|exact bA (by subst_vars;assumption)|intro h9)
    all_goals(try(conv=>whnf))<;>(subst_vars;try first|(apply Tk.mk;kernel_rfl)|exact⟨ah rfl⟩|exact⟨rfl⟩|exact⟨trivial⟩|rfl|contradiction|(apply Ob.mk;(try simp only[ag,ak,aa.ae])<;>(try dsimp only)<;>omega))
    all_goals first|exact⟨show 0+Int.toNat (i:Int)<F.length by omega⟩
   have q1:(!aQ (ca F i) 0 ((W.length:Int)-1))=false:=by rw[h1];rfl
   have hin:=akk.1 h1;have ix:0+Int.toNat (ca F i)<(seen W.length (F.take i)).length:=by omega
   have iw:0+Int.toNat (ca F i)<W.length:=by omega
   have aq4:avH (seen W.length (F.take i)) (ca F i)=(F.take i).contains (gA F i):=by rw[axB,avo hin.1 (by omega),hg]
   cases h2:avH (seen W.length (F.take i)) (ca F i)
   ·have hc:(F.take i).contains (gA F i)=false:=aq4.symm.trans h2;have hst:(seen W.length (F.take i)).set (0+Int.toNat (ca F i)) true=seen W.length (F.take (i+1)):=by
     rw[Nat.zero_add,avr hin.1 (by omega),hg,Sh hi1,List.take_succ_eq_append_getElem hi1]
    by_cases h3:0<i
    ·have p1:decide ((i:Int)>0)=true:=decide_eq_true (by omega)
     have Kq:=an7 (hj (i-1) (by omega))
     have ei:((i:Int)-1)=((i-1:Nat):Int):=by omega
     have hg1:ca F ((i:Int)-1)=gA F (i-1):=by rw[ei];exact kX F (i-1)
     rw[<-hg1]at Kq;have azE:0+Int.toNat (ca F ((i:Int)-1))<W.length:=by omega
     have azD:0+Int.toNat ((i:Int)-1)<F.length:=by omega
     have e1:ca W (ca F i)=cw W (gA F i):=by rw[<-hg];exact ak3
     have e2:ca W (ca F ((i:Int)-1))=cw W (gA F (i-1)):=by rw[<-hg1];exact ak3
     cases h4:decide (ca W (ca F i)<ca W (ca F ((i:Int)-1)))
     ·have hok:nD F W i=true:=by
       unfold nD;rw[<-hg,h1,hg,hc,<-e1,<-e2,h4];simp
      clear hg hg1 e1 e2 aq4;repeat'((conv=>whnf);first|apply And.intro|exact bA (by subst_vars;assumption)|intro h9)
      all_goals(try(conv=>whnf))<;>(subst_vars;try first|(apply Tk.mk;kernel_rfl)|exact⟨ah rfl⟩|exact⟨rfl⟩|exact⟨trivial⟩|rfl|contradiction|(apply Ob.mk;(try simp only[ag,ak,aa.ae])<;>(try dsimp only)<;>omega))
      all_goals try first|exact⟨⟨hin.1,show ca F i<(W.length:Int) by omega⟩⟩|exact⟨ix⟩|exact⟨iw⟩|exact⟨azE⟩|exact⟨azD⟩|exact⟨show 0+Int.toNat (i:Int)<F.length by omega⟩
      all_goals
       refine⟨i+1,[0,1,2],⟨hi1,fun j hj'=>by rcases Nat.lt_succ_iff_lt_or_eq.1 hj' with h|rfl;exact hj j h;exact hok⟩,?_,by show F.length-(i+1)<F.length-i;omega⟩
       repeat'((conv=>whnf);(first|apply And.intro|intro _))
       all_goals first|rfl|trivial|exact ah rfl|exact⟨rfl,rfl,rfl⟩|exact⟨rfl,rfl⟩|(rename_i r9 bx;revert r9;decide)|exact hst|exact⟨rfl,rfl,hst⟩
     rw[aqk hi1 (by unfold nD;rw[<-hg,h1,hg,hc,<-e1,<-e2,h4,decide_eq_false (by omega)];rfl)]
     clear hg hg1 e1 e2 aq4;repeat'((conv=>whnf);first|apply And.intro|exact bA (by subst_vars;assumption)|intro h9)
     all_goals(try(conv=>whnf))<;>(subst_vars;try first|(apply Tk.mk;kernel_rfl)|exact⟨ah rfl⟩|exact⟨rfl⟩|exact⟨trivial⟩|rfl|contradiction|(apply Ob.mk;(try simp only[ag,ak,aa.ae])<;>(try dsimp only)<;>omega))
     all_goals first|exact⟨⟨hin.1,show ca F i<(W.length:Int) by omega⟩⟩|exact⟨ix⟩|exact⟨iw⟩|exact⟨azE⟩|exact⟨azD⟩|exact⟨show 0+Int.toNat (i:Int)<F.length by omega⟩
    have p1:decide ((i:Int)>0)=false:=decide_eq_false (by omega)
    have hok:nD F W i=true:=by
     unfold nD;rw[<-hg,h1,hg,hc,decide_eq_true (by omega)];rfl
    clear hg aq4;repeat'((conv=>whnf);first|apply And.intro|exact bA (by subst_vars;assumption)|intro h9)
    all_goals(try(conv=>whnf))<;>(subst_vars;try first|(apply Tk.mk;kernel_rfl)|exact⟨ah rfl⟩|exact⟨rfl⟩|exact⟨trivial⟩|rfl|contradiction|(apply Ob.mk;(try simp only[ag,ak,aa.ae])<;>(try dsimp only)<;>omega))
    all_goals try first|exact⟨⟨hin.1,show ca F i<(W.length:Int) by omega⟩⟩|exact⟨ix⟩|exact⟨show 0+Int.toNat (i:Int)<F.length by omega⟩
    all_goals
     refine⟨i+1,[0,1,2],⟨hi1,fun j hj'=>by rcases Nat.lt_succ_iff_lt_or_eq.1 hj' with h|rfl;exact hj j h;exact hok⟩,?_,by show F.length-(i+1)<F.length-i;omega⟩
     repeat'((conv=>whnf);(first|apply And.intro|intro _))
     all_goals first|rfl|trivial|exact ah rfl|exact⟨rfl,rfl,rfl⟩|exact⟨rfl,rfl⟩|(rename_i r9 bx;revert r9;decide)|exact hst|exact⟨rfl,rfl,hst⟩
   rw[aqk hi1 (by unfold nD;rw[<-hg,h1,hg,<-aq4,h2];rfl)]
   clear hg aq4;repeat'((conv=>whnf);first|apply And.intro|exact bA (by subst_vars;assumption)|intro h9)
   all_goals(try(conv=>whnf))<;>(subst_vars;try first|(apply Tk.mk;kernel_rfl)|exact⟨ah rfl⟩|exact⟨rfl⟩|exact⟨trivial⟩|rfl|contradiction|(apply Ob.mk;(try simp only[ag,ak,aa.ae])<;>(try dsimp only)<;>omega))
   all_goals first|exact⟨⟨hin.1,show ca F i<(W.length:Int) by omega⟩⟩|exact⟨ix⟩|exact⟨show 0+Int.toNat (i:Int)<F.length by omega⟩
  have p0:decide ((i:Int)<(F.length:Int))=false:=decide_eq_false (by omega)
  rw[axf (by omega) (fun j hj'=>hj j (by omega))]
  repeat'((conv=>whnf);first|apply And.intro|exact bA (by subst_vars;assumption)|intro h9)
  all_goals(try(conv=>whnf))<;>(subst_vars;try first|(apply Tk.mk;kernel_rfl)|exact⟨ah rfl⟩|exact⟨rfl⟩|exact⟨trivial⟩|rfl|contradiction|(apply Ob.mk;(try simp only[ag,ak,aa.ae])<;>(try dsimp only)<;>omega))
 rw[axe (ari h0)];repeat'((conv=>whnf);first|apply And.intro|exact bA (by subst_vars;assumption)|intro h9)
 all_goals(try(conv=>whnf))<;>(subst_vars;try first|(apply Tk.mk;kernel_rfl)|exact⟨ah rfl⟩|exact⟨rfl⟩|exact⟨trivial⟩|rfl|contradiction|(apply Ob.mk;(try simp only[ag,ak,aa.ae])<;>(try dsimp only)<;>omega)))
end Go.Proofs.Ytccnimhgjjnmoaa
end
