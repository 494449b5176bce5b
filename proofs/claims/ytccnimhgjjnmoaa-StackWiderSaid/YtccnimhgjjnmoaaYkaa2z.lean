/-
  Texts of the claims: Ykaa2z. No condition: lemmas and contracts.
-/
import Derived.Test.YtccnimhgjjnmoaaSya1z
import Derived.Test.YtccnimhgjjnmoaaSya2z
import Derived.Test.YtccnimhgjjnmoaaSya3z
import Derived.Test.YtccnimhgjjnmoaaSya4z
import Derived.Test.YtccnimhgjjnmoaaSya5z
import Derived.Test.YtccnimhgjjnmoaaPla6z
import Derived.Test.YtccnimhgjjnmoaaYka7z
import Derived.Test.YtccnimhgjjnmoaaYka8z
import Derived.Test.YtccnimhgjjnmoaaYka9z
import Derived.Test.YtccnimhgjjnmoaaYka10z
import Derived.Test.YtccnimhgjjnmoaaYka11z
import Derived.Test.YtccnimhgjjnmoaaYka12z
import Derived.Test.YtccnimhgjjnmoaaYka13z
import Derived.Test.YtccnimhgjjnmoaaYka14z
import Derived.Test.YtccnimhgjjnmoaaYka15z
import Derived.Test.YtccnimhgjjnmoaaYka16z
import Derived.Test.YtccnimhgjjnmoaaYka17z
import Derived.Test.YtccnimhgjjnmoaaYka18z
import Derived.Test.YtccnimhgjjnmoaaPlb1z
import Derived.Test.YtccnimhgjjnmoaaPlc1z
import Derived.Test.YtccnimhgjjnmoaaYkc2z
import Derived.Test.YtccnimhgjjnmoaaPld1z
import Derived.Test.YtccnimhgjjnmoaaYke1z
import Derived.Test.YtccnimhgjjnmoaaPlf1z
import Derived.Test.YtccnimhgjjnmoaaPlg1z
import Derived.Test.YtccnimhgjjnmoaaYkg2z
import Derived.Test.YtccnimhgjjnmoaaPlh1z
import Derived.Test.YtccnimhgjjnmoaaYkh2z
import Derived.Test.YtccnimhgjjnmoaaYki1z
import Derived.Test.YtccnimhgjjnmoaaPlj1z
import Derived.Test.YtccnimhgjjnmoaaYkk1z
import Derived.Test.YtccnimhgjjnmoaaYkl1z
import Derived.Test.YtccnimhgjjnmoaaYkm1z
import Derived.Test.YtccnimhgjjnmoaaPln1z
import Derived.Test.YtccnimhgjjnmoaaYko1z
import Derived.Test.YtccnimhgjjnmoaaPlaa1z
set_option linter.all false
set_option maxRecDepth 100000
set_option maxHeartbeats 40000000
section
namespace Go.Proofs.Ytccnimhgjjnmoaa
open Go Go.Sy Go.dg
variable {Γ:bn}
attribute [local irreducible] ck gi wN kG akS
def aCd (L:List Bk) (l t f:Int) (i:Nat):Bool:=kG f (l-t+f) (l+t+f) (L.eraseIdx i)==0
attribute [local irreducible] cL
def aCo (L:List Bk) (l t f:Int):cM:=match bf L l t f==0,kG f (l-t+f) (l+t+f) L==0 with
 |false,_=>akH (bf L l t f)
 |true,true=>akH 5
 |true,false=>⟨[.arr 3 kI (akS (aCd L l t f) L L.length) true true],.bF [.a (.sl 0 [] 0 (akS (aCd L l t f) L L.length).length),.a (vI 0)]⟩
def aDk:au:=al5 (fun L _ _ _=>[(aa.of (L.length<=1000000))]) aCo
noncomputable def aCW:List (Nat×au):=[(54,aBa),(57,alk),(103,xz)]
theorem aC2:aR Try.prog Γ aCW:=(((aR.nil.cons (aj Try.func103 rfl rfl).fn zQ).cons (aj Try.func57 rfl rfl).fn akY).cons (aj Try.func54 rfl rfl).fn fQ)
noncomputable def aCO:List (Nat×Body):=[(82,bo Try.f82),(83,bo Try.f83)]
theorem aCS:bq Try.prog aCO:=((bq.nil.cons (cg Try.func83 rfl rfl)).cons (cg Try.func82 rfl rfl))
noncomputable def aDn:Env:={jV.env aCW aCO false 0 with htr:=awU}
theorem aCU:aL Try.prog Γ aDn:=(aP aC2 aCS false 0).NA _
theorem aCT:au.Ok Try.prog Γ 44 aDk:=amN (d:=4) aCU (aj Try.func44 rfl rfl) (by
 intro L l t f K ⟨hL,_⟩ hK;simp only[aa.ae]at hL;have hone:=akP L l t f;unfold aCo at hK;cases h0:bf L l t f==0
 ·rw[h0]at hK;dsimp only[akH]at hK;have e0:(lu L [(l,t,f)]!=0)=true:=by rw[hone];unfold bne;rw[h0];rfl
  rw[<-hone]at hK;repeat'((conv=>whnf);first|apply And.intro|exact bA (by subst_vars;assumption)|intro h9)
  all_goals(try(conv=>whnf))<;>(subst_vars;try first|(apply Tk.mk;kernel_rfl)|exact⟨ah rfl⟩|exact⟨rfl⟩|exact⟨trivial⟩|rfl|contradiction|(apply Ob.mk;(try simp only[ag,ak,aa.ae])<;>(try dsimp only)<;>omega))
  all_goals first
   |(refine bu.base ⟨_,[],hK,trivial,rfl,?_⟩;(repeat'((conv=>whnf);(first|apply And.intro|intro _)));all_goals first|rfl|trivial)
   |exact⟨hL⟩
 rw[h0]at hK;have e0:(lu L [(l,t,f)]!=0)=false:=by rw[hone];unfold bne;rw[h0];rfl
 obtain⟨hB,hw⟩:=gg (eq_of_beq h0);obtain⟨hl,ht,hf⟩:=wE hw;have hn:=hB.Kg;have jJ:-1152921504606846976<=l/\l<=1152921504606846976:=by omega
 have UW:0<=t/\t<=1152921504606846976:=by omega
 cases h1:kG f (l-t+f) (l+t+f) L==0
 ·rw[h1]at hK;dsimp only at hK;have aoU:=avd (aCd L l t f) L;have azW:(akS (aCd L l t f) L 0).length=0:=by rw[aoU];rfl
  repeat'((conv=>whnf);first|apply And.intro|exact bA (by subst_vars;assumption)|intro h9)
  all_goals(try(conv=>whnf))<;>(subst_vars;try first|(apply Tk.mk;kernel_rfl)|exact⟨ah rfl⟩|exact⟨rfl⟩|exact⟨trivial⟩|rfl|contradiction|(apply Ob.mk;(try simp only[ag,ak,aa.ae])<;>(try dsimp only)<;>omega))
  all_goals try first|exact⟨hL⟩|exact⟨hB⟩
  refine⟨Nat,fun i=>i<=L.length,fun i=>⟨aI 53 [0,2,4,9,10,25,26,27] [.a (.sl 0 [] 0 L.length),.a (.fn 83 []),.a (.p 2 [] 0 0),.a (vI (kG f (l-t+f) (l+t+f) L)),.a (.sl 3 [] 0 (akS (aCd L l t f) L i).length),.a (.sl 0 [] 0 L.length),.a (vI L.length),.a (vI i)],[aI 11 [] []],[.arr 67 kK L false false,.box true [vI l,vI t,vI f],.box true [vI l,vI t,vI f],.arr 3 kI (akS (aCd L l t f) L i) true true]⟩,fun i=>L.length-i,0,[0,1,2,1000],Nat.zero_le _,?_,?_⟩
  ·repeat'((conv=>whnf)<;>first|apply And.intro|intro _|rfl|trivial|exact ah rfl|exact aS ‹_› rfl|exact aT ‹_› rfl|((repeat' first|rfl|constructor);done)|exact aoU|exact azW)
  rintro i hi;have DG:=awX (aCd L l t f) L i;by_cases hi1:i<L.length
  ·have p0:decide ((i:Int)<(L.length:Int))=true:=decide_eq_true (by omega)
   have hst:=avc (aCd L l t f) L i;rw[show bk L i=gr L i from(tb L i).symm]at hst;have hE:=ay6 L i;have Rn:0+0+(Int.toNat (i:Int)-0)<=L.length:=by omega
   have Nh:0+Int.toNat ((i:Int)+1)+(L.length-Int.toNat ((i:Int)+1))<=L.length:=by omega
   have ax0:gb (er L i):=by rw[hE];exact hB.erase i
   have hfl:(er L i).length<=1000000:=by have:=ax0.Kg;omega
   have akD:((akS (aCd L l t f) L i).length+1)*1<=1099511627776:=by omega
   cases hq:kG f (l-t+f) (l+t+f) (er L i)==0
   ·have AM:aCd L l t f i=false:=by unfold aCd;rw[<-hE];exact hq
    rw[AM]at hst;simp only[Bool.false_eq_true,if_false]at hst;repeat'((conv=>whnf);first|apply And.intro|exact bA (by subst_vars;assumption)|intro h9)
    all_goals(try(conv=>whnf))<;>(subst_vars;try first|(apply Tk.mk;kernel_rfl)|exact⟨ah rfl⟩|exact⟨rfl⟩|exact⟨trivial⟩|rfl|contradiction|(apply Ob.mk;(try simp only[ag,ak,aa.ae])<;>(try dsimp only)<;>omega))
    all_goals try first|trivial|exact⟨Rn⟩|exact⟨Nh⟩|exact⟨ax0⟩|exact⟨hfl⟩|exact⟨show 0+Int.toNat (i:Int)<L.length by omega⟩
    refine⟨i+1,[0,1,2,3],hi1,?_,by show L.length-(i+1)<L.length-i;omega⟩
    dsimp only;rw[hst];repeat'((conv=>whnf)<;>first|apply And.intro|intro _|rfl|trivial|exact ah rfl|exact aS ‹_› rfl|exact aT ‹_› rfl|((repeat' first|rfl|constructor);done))
   have AM:aCd L l t f i=true:=by unfold aCd;rw[<-hE];exact hq
   rw[AM]at hst;simp only[if_true]at hst;have amC:=congrArg List.length hst;rw[List.length_append,List.length_singleton]at amC;repeat'((conv=>whnf);first|apply And.intro|exact bA (by subst_vars;assumption)|intro h9)
   all_goals(try(conv=>whnf))<;>(subst_vars;try first|(apply Tk.mk;kernel_rfl)|exact⟨ah rfl⟩|exact⟨rfl⟩|exact⟨trivial⟩|rfl|contradiction|(apply Ob.mk;(try simp only[ag,ak,aa.ae])<;>(try dsimp only)<;>omega))
   all_goals try first|trivial|exact⟨Rn⟩|exact⟨Nh⟩|exact⟨ax0⟩|exact⟨hfl⟩|exact⟨akD⟩|exact⟨Nat.zero_add _⟩|exact⟨show 0+Int.toNat (i:Int)<L.length by omega⟩
   refine⟨i+1,[0,1,2,3],hi1,?_,by show L.length-(i+1)<L.length-i;omega⟩
   repeat'((conv=>whnf)<;>first|apply And.intro|intro _|rfl|trivial|exact ah rfl|exact aS ‹_› rfl|exact aT ‹_› rfl|((repeat' first|rfl|constructor);done)|exact amC.symm|exact⟨rfl,rfl,hst.symm⟩)
  have p0:decide ((i:Int)<(L.length:Int))=false:=decide_eq_false (by omega)
  have amB:i=L.length:=by omega
  rw[<-amB]at hK;clear amB;repeat'((conv=>whnf);first|apply And.intro|exact bA (by subst_vars;assumption)|intro h9)
  all_goals(try(conv=>whnf))<;>(subst_vars;try first|(apply Tk.mk;kernel_rfl)|exact⟨ah rfl⟩|exact⟨rfl⟩|exact⟨trivial⟩|rfl|contradiction|(apply Ob.mk;(try simp only[ag,ak,aa.ae])<;>(try dsimp only)<;>omega))
  refine bu.base ⟨_,[3],hK,⟨rfl,rfl,by simp,trivial⟩,rfl,?_⟩
  repeat'((conv=>whnf)<;>first|apply And.intro|intro _|rfl|trivial)
 rw[h1]at hK;dsimp only[akH]at hK;repeat'((conv=>whnf);first|apply And.intro|exact bA (by subst_vars;assumption)|intro h9)
 all_goals(try(conv=>whnf))<;>(subst_vars;try first|(apply Tk.mk;kernel_rfl)|exact⟨ah rfl⟩|exact⟨rfl⟩|exact⟨trivial⟩|rfl|contradiction|(apply Ob.mk;(try simp only[ag,ak,aa.ae])<;>(try dsimp only)<;>omega))
 all_goals first
  |(refine bu.base ⟨_,[],hK,trivial,rfl,?_⟩;(repeat'((conv=>whnf);(first|apply And.intro|intro _)));all_goals first|rfl|trivial)
  |exact⟨hL⟩
  |exact⟨hB⟩)
end Go.Proofs.Ytccnimhgjjnmoaa
end
section
namespace Go.Proofs.Ytccnimhgjjnmoaa
open Go Go.Sy Go.dg
variable {Γ:bn}
attribute [local irreducible] ck gi wN sub e7 ta kG adp x6 pw eg gf akv kB gm
def aCQ:au:=an4 (fun L _ _ _=>[(aa.of (L.length<=1000000))]) (fun L l t f K=>((bf L l t f==0)=false->K (akH (bf L l t f)))/\((bf L l t f==0)=true->((gN l t f L:Int)==0)=true->K (akH 5))/\
 ((bf L l t f==0)=true->((gN l t f L:Int)==0)=false->K ⟨[.arr 3 kI (akS (aCd L l t f) L L.length) true true],.bF [.a (.sl 0 [] 0 (akS (aCd L l t f) L L.length).length),.a (vI 0)]⟩))
theorem aCV:au.Ok Try.prog Γ 44 aCQ:=ank aCT (by
 intro L l t f K ⟨h1,h2,h3⟩;unfold aCo;cases h0:bf L l t f==0
 ·exact h1 h0
 obtain⟨hB,hw⟩:=gg (eq_of_beq h0);obtain⟨hl,ht,hf⟩:=wE hw;rw[alD L (by omega)]
 cases hg:((gN l t f L:Int)==0)
 ·exact h3 h0 hg
 ·exact h2 h0 hg)
end Go.Proofs.Ytccnimhgjjnmoaa
end
section
namespace Go.Proofs.Ytccnimhgjjnmoaa
open Go Go.Sy Go.dg
variable {Γ:bn}
theorem ayN {L:List Bk} (h:alg L=true) (hB:gb L):L.length<=12:=by
 unfold alg at h;have:=hB.Kg;rw[Bool.or_eq_true,Bool.and_eq_true,decide_eq_true_eq,decide_eq_true_eq,decide_eq_true_eq]at h;omega
attribute [local irreducible] alg bf ck gf aku x9 eg wN Cn kB gm
end Go.Proofs.Ytccnimhgjjnmoaa
end
section
namespace Go.Proofs.Ytccnimhgjjnmoaa
open Go Go.Sy Go.dg
variable {Γ:bn}
theorem _root_.Go.Sy.aL.aDD {E:Env} (h:aL Try.prog Γ E):aL Try.prog Γ {E with exact:=false}:=⟨h.mixed,h.fn,h.inl,{h.env with}⟩
attribute [local irreducible] alg bf ck kG
end Go.Proofs.Ytccnimhgjjnmoaa
end
section
namespace Go.Proofs.Ytccnimhgjjnmoaa
open Go Go.Sy Go.dg
variable {Γ:bn}
theorem aDd {L:List Bk} (h:L.length<=12) (q:Nat->Bool):(akS q L L.length).length<=1000000:=by
 unfold akS;rw[List.length_map];exact Nat.le_trans (List.length_filter_le _ _) (by rw[List.length_range];omega)
attribute [local irreducible] alg bf ck gf eg wN aCd tx akS
end Go.Proofs.Ytccnimhgjjnmoaa
end
section
namespace Go.Proofs.Ytccnimhgjjnmoaa
open Go Go.Sy Go.dg
variable {Γ:bn}
def nI (D:List Bk->Int->Int->Int->Int->List Int->List aa) (F:List Bk->Int->Int->Int->Int->List Int->Tm):au:=.fn fun args rg=>match args with
 |[.a x0,.agg [.v (.int .i64 n0),.v (.int .i64 n1),.v (.int .i64 n2)],.a (.v (.int .i64 n3)),.a x1]=>(match ac1 67 kK rg x0,ac1 3 kI rg x1 with|some (q0,L0),some (q1,L1)=>some (q0++(q1++(D L0 n0 n1 n2 n3 L1)),F L0 n0 n1 n2 n3 L1)|_,_=>none)
 |_=>none
theorem aIy {f:FuncId} {b:Body} {E:Env} {d:Nat} (hP:aL Try.prog Γ E) (hb:bQ Try.prog f b) {D:List Bk->Int->Int->Int->Int->List Int->List aa} {F:List Bk->Int->Int->Int->Int->List Int->Tm} (hp:∀ (L0:List Bk) (n0:Int) (n1:Int) (n2:Int) (n3:Int) (L1:List Int),(F L0 n0 n1 n2 n3 L1).plain=true)
 (H:∀ (L0:List Bk) (n0:Int) (n1:Int) (n2:Int) (n3:Int) (L1:List Int),bW (D L0 n0 n1 n2 n3 L1)->cQ E d b [.a (.sl 0 [] 0 L0.length),.agg [vI n0,vI n1,vI n2],.a (vI n3),.a (.sl 1 [] 0 L1.length)] [.arr 67 kK L0 false false,.arr 3 kI L1 false false] (fun x _=>iL x (F L0 n0 n1 n2 n3 L1))):au.Ok Try.prog Γ f (nI D F):=au.aBp (d:=d) hP hb (by
 intro args rg q t hF hq;split at hF;next x0 n0 n1 n2 n3 x1=>
  split at hF;next q0 L0 q1 L1 hx0 cO=>
   obtain⟨rfl,rfl⟩:=Prod.mk.inj (Option.some.inj hF);clear hF;rw[aH,aH]at hq;obtain⟨aIh,gk,hD⟩:=hq;obtain⟨e0,Vn⟩:=bP (by simp[kK]) hx0 aIh
   obtain⟨e1,iO⟩:=bP (by simp[kI]) cO gk
   obtain⟨p0,r0⟩:=Vn [e0,e1] 0 2 rfl (by omega)
   obtain⟨p1,r1⟩:=iO [e0,e1] 1 2 rfl (by omega)
   refine⟨hp _ _ _ _ _ _,[e0,e1],[.a (.sl 0 [] 0 L0.length),.agg [vI n0,vI n1,vI n2],.a (vI n3),.a (.sl 1 [] 0 L1.length)],[.arr 67 kK L0 false false,.arr 3 kI L1 false false],⟨⟨p0,⟨rfl,rfl,rfl,trivial⟩,rfl,p1,trivial⟩,fun r g hg=>?_⟩,H _ _ _ _ _ _ hD⟩
   match r,hg with
   |0,hg=>obtain rfl:=Option.some.inj hg;exact r0
   |1,hg=>obtain rfl:=Option.some.inj hg;exact r1
  next=>cases hF
 next=>cases hF)
noncomputable def aIO:List (Nat×au):=[(20,Df),(21,aIb),(23,alU),(22,ap3),(48,aEn),(44,aCQ),(45,arf),(25,aoi),(47,aFA)]
theorem aIB:aR Try.prog Γ aIO:=(((((((((aR.nil.cons (aj Try.func47 rfl rfl).fn aE3).cons (aj Try.func25 rfl rfl).fn anG).cons (aj Try.func45 rfl rfl).fn ash).cons (aj Try.func44 rfl rfl).fn aCV).cons (aj Try.func48 rfl rfl).fn aEh).cons (aj Try.func22 rfl rfl).fn aoY).cons (aj Try.func23 rfl rfl).fn an2).cons (aj Try.func21 rfl rfl).fn sW).cons (aj Try.func20 rfl rfl).fn EJ)
abbrev wT (t m:Int):Int:=(if(1125899906842624:Int)<t then 1125899906842624 else t)+m
theorem aIN {t m:Int} (h:t<=1125899906842624) (hm:0<=m):t<=wT t m:=by unfold wT;rw[if_neg (by omega)];omega
theorem aIJ {q:Nat->Bool} {L:List Bk} {n:Nat} {x:Int}:x∈akS q L n<->∃ i,i<n/\q i=true/\(bk L i).1=x:=by
 unfold akS;rw[List.mem_map];constructor
 ·rintro⟨i,hi,rfl⟩;obtain⟨h1,h2⟩:=List.mem_filter.1 hi;exact⟨i,List.mem_range.1 h1,h2,rfl⟩
 ·rintro⟨i,h1,h2,rfl⟩;exact⟨i,List.mem_filter.2 ⟨List.mem_range.2 h1,h2⟩,rfl⟩
theorem aIC {p q:Nat->Bool} {L:List Bk} (h:∀ i,i<L.length->q i=true->p i=true) {z:Nat} (hz:z<(akS q L L.length).length):(akS p L L.length).contains (ca (akS q L L.length) z)=true:=by
 rw[List.contains_iff_mem,alf hz];have hm:=List.getElem_mem hz;rw[aIJ]at hm ⊢;obtain⟨i,h1,h2,h3⟩:=hm;exact⟨i,h1,h i h1 h2,h3⟩
theorem aIw {l t t' f:Int} {L:List Bk} (h:t<=t'):∀ s∈anU f (l-t+f) (l+t+f) L,s∈anU f (l-t'+f) (l+t'+f) L:=by
 rw[<-aCr,<-aCr];intro s hs;rw[awS,List.mem_filter]at hs ⊢;exact⟨hs.1,aIu h hs.2⟩
theorem aID {L:List Bk} {l t t' f:Int} (h:t<=t') (h0:0<=l+t+f) {i:Nat} (hi:i<L.length) (hq:aCd L l t' f i=true):aCd L l t f i=true:=by
 have h1:kG f (l-t'+f) (l+t'+f) (L.eraseIdx i)=0:=beq_iff_eq.1 hq;rw[aC3 (by omega) hi]at h1
 have h2:kG f (l-t+f) (l+t+f) (L.eraseIdx i)=0:=by
  rw[aC3 (by omega) hi]
  exact fun s hs=>h1 s (aIw h s hs)
 exact beq_iff_eq.2 h2
theorem aIA {L:List Bk} {l t t' f:Int} (h:t<=t') (h0:0<=l+t+f) {i:Nat} (hi:i<L.length) (hq:tx L l t' f i=true):tx L l t f i=true:=by
 have h1:kG f (l-t'+f) (l+t'+f) L=kG f (l-t'+f) (l+t'+f) (L.eraseIdx i):=beq_iff_eq.1 hq;rw[aDh (by omega) hi]at h1
 have h2:kG f (l-t+f) (l+t+f) L=kG f (l-t+f) (l+t+f) (L.eraseIdx i):=by
  rw[aDh (by omega) hi]
  exact fun s hs=>h1 s (aIw h s hs)
 exact beq_iff_eq.2 h2
structure aIQ (L:List Bk) (l t f m:Int) (I:List Int):Prop where
 p1:decide ((if bf L l (wT t m) f=0 then(gN l (wT t m) f L:Int)else 0)<(if bf L l t f=0 then(gN l t f L:Int)else 0))=false
 p2:((aD1 L l t f I).2!=(aD1 L l (wT t m) f I).2)=false
 p3:aD3 L l t f I=true->(!aD3 L l (wT t m) f I)=false
 p4:gf l t f L≠[]->((gN l (wT t m) f L:Int)==0)=false/\decide (((eg L (aku l (wT t m) f L)).length:Int)>((eg L (aku l t f L)).length:Int))=false
 p5:∀ z:Nat,z<(akS (aCd L l (wT t m) f) L L.length).length->(!((akS (aCd L l t f) L L.length).contains (ca (akS (aCd L l (wT t m) f) L L.length) z)))=false
 p6:∀ z:Nat,z<(akS (tx L l (wT t m) f) L L.length).length->(!((akS (tx L l t f) L L.length).contains (ca (akS (tx L l (wT t m) f) L L.length) z)))=false
 p7:((Cn L l t f).1==(Cn L l (wT t m) f).1)=true
 p8:((Cn L l t f).2==(Cn L l (wT t m) f).2)=true
theorem aIK {L:List Bk} {l t f m:Int} {I:List Int} (ha:bf L l t f=0) (hb:bf L l (wT t m) f=0) (hm:0<=m):aIQ L l t f m I:=by
 obtain⟨hB,hw⟩:=gg ha;obtain⟨hl,ht,hf⟩:=wE hw;have hle:=aIN ht.2 hm;refine⟨?_,?_,fun h=>?_,fun h=>?_,fun z hz=>?_,fun z hz=>?_,?_,?_⟩
 ·rw[if_pos ha,if_pos hb];have:=aIG (l:=l) (f:=f) L hle;refine decide_eq_false ?_;show ¬((gf l (wT t m) f L).length:Int)<((gf l t f L).length:Int);omega
 ·rw[aFb ha,aFb hb];exact bne_self_eq_false _
 ·obtain⟨u,u1,u2,u3⟩:=aEl h;have:=(aEk hb u1 (aIu hle u2)).2;rw[u3]at this;rw[this];rfl
 ·obtain⟨f1,f2⟩:=aFr h;have f3:=aIu hle f2;have:=List.length_pos_iff.2 (aEj f1 f3);refine⟨beq_eq_false_iff_ne.2 (show ¬((gf l (wT t m) f L).length:Int)=0 by omega),decide_eq_false ?_⟩
  have:=aFN f1 f3;rw[ew,ew];omega
 ·rw[aIC (fun i hi=>aID hle (by omega) hi) hz];rfl
 ·rw[aIC (fun i hi=>aIA hle (by omega) hi) hz];rfl
 ·unfold Cn;rw[if_pos ha,if_pos hb];split<;>exact beq_self_eq_true _
 ·unfold Cn;rw[if_pos ha,if_pos hb];split<;>exact beq_self_eq_true _
attribute [local irreducible] alg bf ck gf aku eg wN aD1 aD3 Cn aCd tx akS
noncomputable def aIP:Env:={jV.env aIO [] false 0 with cut:=fun t=>Nat.beq t 134}
theorem aIH:aL Try.prog Γ aIP:=(aP aIB bq.nil false 0).aBf _
def aIL:au:=nI (fun _ _ t _ _ _=>[(aa.of (-1152921504606846976<=t/\t<=1152921504606846976))]) (fun _ _ _ _ _ _=>bl true)
theorem aIE:au.Ok Try.prog Γ 19 aIL:=aIy (d:=0) aIH (aj Try.func19 rfl rfl) (fun _ _ _ _ _ _=>rfl) (by
 intro L l t f m I ⟨aII,_⟩;simp only[aa.ae]at aII;have z0:((0:Int)==0)=true:=rfl;have z1:((0:Int)!=0)=false:=rfl;have z2:((5:Int)==0)=false:=rfl;have z3:((5:Int)==5)=true:=rfl;have z4:decide ((0:Int)<0)=false:=rfl;cases hs:alg L
 ·have w0:(!alg L)=true:=by rw[hs];rfl
  repeat'((conv=>whnf);first|apply And.intro|exact bA (by subst_vars;assumption)|intro h9)
  all_goals(try(conv=>whnf))<;>(subst_vars;try first|(apply Tk.mk;kernel_rfl)|exact⟨ah rfl⟩|exact⟨rfl⟩|exact⟨trivial⟩|rfl|contradiction|(apply Ob.mk;(try simp only[ag,ak,aa.ae])<;>(try dsimp only)<;>omega))
 have hL:=ayO hs;have w0:(!alg L)=false:=by rw[hs];rfl
 by_cases g1:I.length>20
 ·have d1:decide ((I.length:Int)>20)=true:=decide_eq_true (by omega)
  repeat'((conv=>whnf);first|apply And.intro|exact bA (by subst_vars;assumption)|intro h9)
  all_goals(try(conv=>whnf))<;>(subst_vars;try first|(apply Tk.mk;kernel_rfl)|exact⟨ah rfl⟩|exact⟨rfl⟩|exact⟨trivial⟩|rfl|contradiction|(apply Ob.mk;(try simp only[ag,ak,aa.ae])<;>(try dsimp only)<;>omega))
 have d1:decide ((I.length:Int)>20)=false:=decide_eq_false (by omega)
 by_cases g2:m<0
 ·have d2:decide (m<0)=true:=decide_eq_true g2;repeat'((conv=>whnf);first|apply And.intro|exact bA (by subst_vars;assumption)|intro h9)
  all_goals(try(conv=>whnf))<;>(subst_vars;try first|(apply Tk.mk;kernel_rfl)|exact⟨ah rfl⟩|exact⟨rfl⟩|exact⟨trivial⟩|rfl|contradiction|(apply Ob.mk;(try simp only[ag,ak,aa.ae])<;>(try dsimp only)<;>omega))
 have d2:decide (m<0)=false:=decide_eq_false g2;by_cases g3:m>1099511627776
 ·have d3:decide (m>1099511627776)=true:=decide_eq_true g3;repeat'((conv=>whnf);first|apply And.intro|exact bA (by subst_vars;assumption)|intro h9)
  all_goals(try(conv=>whnf))<;>(subst_vars;try first|(apply Tk.mk;kernel_rfl)|exact⟨ah rfl⟩|exact⟨rfl⟩|exact⟨trivial⟩|rfl|contradiction|(apply Ob.mk;(try simp only[ag,ak,aa.ae])<;>(try dsimp only)<;>omega))
 have d3:decide (m>1099511627776)=false:=decide_eq_false g3;have hI:I.length<=1000:=by omega
 have hr:ak .i64 (wT t m):=by simp only[ak];unfold wT;split<;>omega
 cases h0:bf L l t f==0
 ·have a1:(bf L l t f !=0)=true:=by unfold bne;rw[h0];rfl
  repeat'((conv=>whnf);first|apply And.intro|exact bA (by subst_vars;assumption)|intro h9)
  all_goals(try(conv=>whnf))<;>(subst_vars;try first|(apply Tk.mk;kernel_rfl)|exact⟨ah rfl⟩|exact⟨rfl⟩|exact⟨trivial⟩|rfl|contradiction|(apply Ob.mk;(try simp only[ag,ak,aa.ae])<;>(try dsimp only)<;>omega))
  all_goals try first|exact⟨hL⟩
 have a1:(bf L l t f !=0)=false:=by unfold bne;rw[h0];rfl
 cases k0:bf L l (wT t m) f==0
 ·have a2:(bf L l (wT t m) f !=0)=true:=by unfold bne;rw[k0];rfl
  repeat'((conv=>whnf);first|apply And.intro|exact bA (by subst_vars;assumption)|intro h9)
  all_goals(try(conv=>whnf))<;>(subst_vars;try first|(apply Tk.mk;kernel_rfl)|exact⟨ah rfl⟩|exact⟨rfl⟩|exact⟨trivial⟩|rfl|contradiction|(apply Ob.mk;(try simp only[ag,ak,aa.ae])<;>(try dsimp only)<;>omega))
  all_goals try first|exact⟨hL⟩
 have a2:(bf L l (wT t m) f !=0)=false:=by unfold bne;rw[k0];rfl
 obtain⟨p1,p2,p3,p4,p5,p6,p7,p8⟩:=aIK (I:=I) (eq_of_beq h0) (eq_of_beq k0) (show 0<=m by omega)
 have h12:=ayN hs (gg (eq_of_beq h0)).1;have n1:=aDd h12 (aCd L l t f);have n2:=aDd h12 (tx L l t f);have n3:=aDd h12 (aCd L l (wT t m) f);have n4:=aDd h12 (tx L l (wT t m) f);cases hg:((gN l t f L:Int)==0)
 ·obtain⟨q1,q2⟩:=p4 (amP hg);clear p4;repeat'((conv=>whnf);first|apply And.intro|exact bA (by subst_vars;assumption)|intro h9)
  all_goals(try(conv=>whnf))<;>(subst_vars;try first|(apply Tk.mk;kernel_rfl)|exact⟨ah rfl⟩|exact⟨rfl⟩|exact⟨trivial⟩|rfl|contradiction|(apply Ob.mk;(try simp only[ag,ak,aa.ae])<;>(try dsimp only)<;>omega))
  all_goals try first|exact⟨hL⟩|exact⟨hI⟩
  refine⟨Unit,fun _=>True,fun _=>⟨aI 221 [0,5,9] [.a (.sl 0 [] 0 L.length),.a (.p 2 [] 0 0),.a (.p 3 [] 0 0)],[],[.arr 67 kK L false false,.arr 3 kI I false false,.box true [vI l,vI t,vI f],.box true [vI l,vI (wT t m),vI f]]⟩,?_,?_⟩
  ·cases hb:aD3 L l t f I
   ·repeat'((conv=>whnf);first|apply And.intro|exact bA (by subst_vars;assumption)|intro h9)
    all_goals(try(conv=>whnf))<;>(subst_vars;try first|(apply Tk.mk;kernel_rfl)|exact⟨ah rfl⟩|exact⟨rfl⟩|exact⟨trivial⟩|rfl|contradiction|(apply Ob.mk;(try simp only[ag,ak,aa.ae])<;>(try dsimp only)<;>omega))
    all_goals first
     |(refine⟨(),[0,1,2,3],trivial,?_⟩;(repeat'((conv=>whnf);(first|apply And.intro|intro _)));(all_goals first|rfl|trivial|exact ah rfl|exact aS ‹_› rfl|exact aT ‹_› rfl|((repeat' first|rfl|constructor);done));done)
   ·have q3:=p3 hb;repeat'((conv=>whnf);first|apply And.intro|exact bA (by subst_vars;assumption)|intro h9)
    all_goals(try(conv=>whnf))<;>(subst_vars;try first|(apply Tk.mk;kernel_rfl)|exact⟨ah rfl⟩|exact⟨rfl⟩|exact⟨trivial⟩|rfl|contradiction|(apply Ob.mk;(try simp only[ag,ak,aa.ae])<;>(try dsimp only)<;>omega))
    all_goals first
     |(refine⟨(),[0,1,2,3],trivial,?_⟩;(repeat'((conv=>whnf);(first|apply And.intro|intro _)));(all_goals first|rfl|trivial|exact ah rfl|exact aS ‹_› rfl|exact aT ‹_› rfl|((repeat' first|rfl|constructor);done));done)
  clear p3;intro _ _;repeat'((conv=>whnf);first|apply And.intro|exact bA (by subst_vars;assumption)|intro h9)
  all_goals(try(conv=>whnf))<;>(subst_vars;try first|(apply Tk.mk;kernel_rfl)|exact⟨ah rfl⟩|exact⟨rfl⟩|exact⟨trivial⟩|rfl|contradiction|(apply Ob.mk;(try simp only[ag,ak,aa.ae])<;>(try dsimp only)<;>omega))
  all_goals try first|exact⟨hL⟩
  refine⟨Nat,fun z=>z<=(akS (aCd L l (wT t m) f) L L.length).length,fun z=>⟨aI 221 [0,5,9,22,23,24,25,26] [.a (.sl 0 [] 0 L.length),.a (.p 2 [] 0 0),.a (.p 3 [] 0 0),.a (.sl 4 [] 0 (akS (aCd L l t f) L L.length).length),.a (vI 0),.a (.sl 5 [] 0 (akS (aCd L l (wT t m) f) L L.length).length),.a (vI 0),.a (vI z)],[],[.arr 67 kK L false false,.arr 3 kI I false false,.box true [vI l,vI t,vI f],.box true [vI l,vI (wT t m),vI f],.arr 3 kI (akS (aCd L l t f) L L.length) true true,.arr 3 kI (akS (aCd L l (wT t m) f) L L.length) true true]⟩,fun z=>(akS (aCd L l (wT t m) f) L L.length).length-z,0,[0,1,2,3,4,5],Nat.zero_le _,?_,?_⟩
  ·repeat'((conv=>whnf)<;>first|apply And.intro|intro _|rfl|trivial|exact ah rfl|exact aS ‹_› rfl|exact aT ‹_› rfl|((repeat' first|rfl|constructor);done))
  intro z hz;by_cases S7:z<(akS (aCd L l (wT t m) f) L L.length).length
  ·have y0:decide ((z:Int)<((akS (aCd L l (wT t m) f) L L.length).length:Int))=true:=decide_eq_true (by omega)
   have y1:=p5 z S7;repeat'((conv=>whnf);first|apply And.intro|exact bA (by subst_vars;assumption)|intro h9)
   all_goals(try(conv=>whnf))<;>(subst_vars;try first|(apply Tk.mk;kernel_rfl)|exact⟨ah rfl⟩|exact⟨rfl⟩|exact⟨trivial⟩|rfl|contradiction|(apply Ob.mk;(try simp only[ag,ak,aa.ae])<;>(try dsimp only)<;>omega))
   all_goals try first|exact⟨n1⟩|exact⟨show 0+Int.toNat (z:Int)<(akS (aCd L l (wT t m) f) L L.length).length by omega⟩
   refine⟨z+1,[0,1,2,3,4,5],S7,?_,by show(akS (aCd L l (wT t m) f) L L.length).length-(z+1)<(akS (aCd L l (wT t m) f) L L.length).length-z;omega⟩
   repeat'((conv=>whnf)<;>first|apply And.intro|intro _|rfl|trivial|exact ah rfl|exact aS ‹_› rfl|exact aT ‹_› rfl|((repeat' first|rfl|constructor);done))
  have y0:decide ((z:Int)<((akS (aCd L l (wT t m) f) L L.length).length:Int))=false:=decide_eq_false (by omega)
  repeat'((conv=>whnf);first|apply And.intro|exact bA (by subst_vars;assumption)|intro h9)
  all_goals(try(conv=>whnf))<;>(subst_vars;try first|(apply Tk.mk;kernel_rfl)|exact⟨ah rfl⟩|exact⟨rfl⟩|exact⟨trivial⟩|rfl|contradiction|(apply Ob.mk;(try simp only[ag,ak,aa.ae])<;>(try dsimp only)<;>omega))
  all_goals try first|exact⟨hL⟩
  refine⟨Nat,fun z=>z<=(akS (tx L l (wT t m) f) L L.length).length,fun z=>⟨aI 221 [0,5,9,25,27,28,29,30,31] [.a (.sl 0 [] 0 L.length),.a (.p 2 [] 0 0),.a (.p 3 [] 0 0),.a (vI 0),.a (.sl 4 [] 0 (akS (tx L l t f) L L.length).length),.a (vI 0),.a (.sl 5 [] 0 (akS (tx L l (wT t m) f) L L.length).length),.a (vI 0),.a (vI z)],[],[.arr 67 kK L false false,.arr 3 kI I false false,.box true [vI l,vI t,vI f],.box true [vI l,vI (wT t m),vI f],.arr 3 kI (akS (tx L l t f) L L.length) true true,.arr 3 kI (akS (tx L l (wT t m) f) L L.length) true true]⟩,fun z=>(akS (tx L l (wT t m) f) L L.length).length-z,0,[0,1,2,3,6,7],Nat.zero_le _,?_,?_⟩
  ·repeat'((conv=>whnf)<;>first|apply And.intro|intro _|rfl|trivial|exact ah rfl|exact aS ‹_› rfl|exact aT ‹_› rfl|((repeat' first|rfl|constructor);done))
  clear y0;intro v hv;by_cases Vp:v<(akS (tx L l (wT t m) f) L L.length).length
  ·have y0:decide ((v:Int)<((akS (tx L l (wT t m) f) L L.length).length:Int))=true:=decide_eq_true (by omega)
   have y1:=p6 v Vp;repeat'((conv=>whnf);first|apply And.intro|exact bA (by subst_vars;assumption)|intro h9)
   all_goals(try(conv=>whnf))<;>(subst_vars;try first|(apply Tk.mk;kernel_rfl)|exact⟨ah rfl⟩|exact⟨rfl⟩|exact⟨trivial⟩|rfl|contradiction|(apply Ob.mk;(try simp only[ag,ak,aa.ae])<;>(try dsimp only)<;>omega))
   all_goals try first|exact⟨n2⟩|exact⟨show 0+Int.toNat (v:Int)<(akS (tx L l (wT t m) f) L L.length).length by omega⟩
   refine⟨v+1,[0,1,2,3,4,5],Vp,?_,by show(akS (tx L l (wT t m) f) L L.length).length-(v+1)<(akS (tx L l (wT t m) f) L L.length).length-v;omega⟩
   repeat'((conv=>whnf)<;>first|apply And.intro|intro _|rfl|trivial|exact ah rfl|exact aS ‹_› rfl|exact aT ‹_› rfl|((repeat' first|rfl|constructor);done))
  have y0:decide ((v:Int)<((akS (tx L l (wT t m) f) L L.length).length:Int))=false:=decide_eq_false (by omega)
  repeat'((conv=>whnf);first|apply And.intro|exact bA (by subst_vars;assumption)|intro h9)
  all_goals(try(conv=>whnf))<;>(subst_vars;try first|(apply Tk.mk;kernel_rfl)|exact⟨ah rfl⟩|exact⟨rfl⟩|exact⟨trivial⟩|rfl|contradiction|(apply Ob.mk;(try simp only[ag,ak,aa.ae])<;>(try dsimp only)<;>omega))
  all_goals try first|trivial|exact⟨hL⟩
 ·clear p4;cases hm:((gN l (wT t m) f L:Int)==0)
  ·repeat'((conv=>whnf);first|apply And.intro|exact bA (by subst_vars;assumption)|intro h9)
   all_goals(try(conv=>whnf))<;>(subst_vars;try first|(apply Tk.mk;kernel_rfl)|exact⟨ah rfl⟩|exact⟨rfl⟩|exact⟨trivial⟩|rfl|contradiction|(apply Ob.mk;(try simp only[ag,ak,aa.ae])<;>(try dsimp only)<;>omega))
   all_goals try first|exact⟨hL⟩|exact⟨hI⟩
   refine⟨Unit,fun _=>True,fun _=>⟨aI 221 [0,5,9] [.a (.sl 0 [] 0 L.length),.a (.p 2 [] 0 0),.a (.p 3 [] 0 0)],[],[.arr 67 kK L false false,.arr 3 kI I false false,.box true [vI l,vI t,vI f],.box true [vI l,vI (wT t m),vI f]]⟩,?_,?_⟩
   ·cases hb:aD3 L l t f I
    ·repeat'((conv=>whnf);first|apply And.intro|exact bA (by subst_vars;assumption)|intro h9)
     all_goals(try(conv=>whnf))<;>(subst_vars;try first|(apply Tk.mk;kernel_rfl)|exact⟨ah rfl⟩|exact⟨rfl⟩|exact⟨trivial⟩|rfl|contradiction|(apply Ob.mk;(try simp only[ag,ak,aa.ae])<;>(try dsimp only)<;>omega))
     all_goals first
      |(refine⟨(),[0,1,2,3],trivial,?_⟩;(repeat'((conv=>whnf);(first|apply And.intro|intro _)));(all_goals first|rfl|trivial|exact ah rfl|exact aS ‹_› rfl|exact aT ‹_› rfl|((repeat' first|rfl|constructor);done));done)
    ·have q3:=p3 hb;repeat'((conv=>whnf);first|apply And.intro|exact bA (by subst_vars;assumption)|intro h9)
     all_goals(try(conv=>whnf))<;>(subst_vars;try first|(apply Tk.mk;kernel_rfl)|exact⟨ah rfl⟩|exact⟨rfl⟩|exact⟨trivial⟩|rfl|contradiction|(apply Ob.mk;(try simp only[ag,ak,aa.ae])<;>(try dsimp only)<;>omega))
     all_goals first
      |(refine⟨(),[0,1,2,3],trivial,?_⟩;(repeat'((conv=>whnf);(first|apply And.intro|intro _)));(all_goals first|rfl|trivial|exact ah rfl|exact aS ‹_› rfl|exact aT ‹_› rfl|((repeat' first|rfl|constructor);done));done)
   clear p3;intro _ _;cases y0:decide ((0:Int)<((akS (aCd L l (wT t m) f) L L.length).length:Int))
   ·repeat'((conv=>whnf);first|apply And.intro|exact bA (by subst_vars;assumption)|intro h9)
    all_goals(try(conv=>whnf))<;>(subst_vars;try first|(apply Tk.mk;kernel_rfl)|exact⟨ah rfl⟩|exact⟨rfl⟩|exact⟨trivial⟩|rfl|contradiction|(apply Ob.mk;(try simp only[ag,ak,aa.ae])<;>(try dsimp only)<;>omega))
    all_goals try first|exact⟨hL⟩
    refine⟨Unit,fun _=>True,fun _=>⟨aI 221 [0,5,9,22,23,24,25,26] [.a (.sl 0 [] 0 L.length),.a (.p 2 [] 0 0),.a (.p 3 [] 0 0),.a (.v (.slice none 0 0)),.a (vI 5),.a (.sl 4 [] 0 (akS (aCd L l (wT t m) f) L L.length).length),.a (vI 0),.a (vI 0)],[],[.arr 67 kK L false false,.arr 3 kI I false false,.box true [vI l,vI t,vI f],.box true [vI l,vI (wT t m),vI f],.arr 3 kI (akS (aCd L l (wT t m) f) L L.length) true true]⟩,fun _=>0,(),[0,1,2,3,4],trivial,?_,?_⟩
    ·repeat'((conv=>whnf)<;>first|apply And.intro|intro _|rfl|trivial|exact ah rfl|exact aS ‹_› rfl|exact aT ‹_› rfl|((repeat' first|rfl|constructor);done))
    intro _ _;cases y1:decide ((0:Int)<((akS (tx L l (wT t m) f) L L.length).length:Int))
    ·repeat'((conv=>whnf);first|apply And.intro|exact bA (by subst_vars;assumption)|intro h9)
     all_goals(try(conv=>whnf))<;>(subst_vars;try first|(apply Tk.mk;kernel_rfl)|exact⟨ah rfl⟩|exact⟨rfl⟩|exact⟨trivial⟩|rfl|contradiction|(apply Ob.mk;(try simp only[ag,ak,aa.ae])<;>(try dsimp only)<;>omega))
     all_goals try first|exact⟨hL⟩
     refine⟨Unit,fun _=>True,fun _=>⟨aI 221 [0,5,9,25,27,28,29,30,31] [.a (.sl 0 [] 0 L.length),.a (.p 2 [] 0 0),.a (.p 3 [] 0 0),.a (vI 0),.a (.v (.slice none 0 0)),.a (vI 5),.a (.sl 4 [] 0 (akS (tx L l (wT t m) f) L L.length).length),.a (vI 0),.a (vI 0)],[],[.arr 67 kK L false false,.arr 3 kI I false false,.box true [vI l,vI t,vI f],.box true [vI l,vI (wT t m),vI f],.arr 3 kI (akS (tx L l (wT t m) f) L L.length) true true]⟩,fun _=>0,(),[0,1,2,3,5],trivial,?_,?_⟩
     ·repeat'((conv=>whnf)<;>first|apply And.intro|intro _|rfl|trivial|exact ah rfl|exact aS ‹_› rfl|exact aT ‹_› rfl|((repeat' first|rfl|constructor);done))
     intro _ _;repeat'((conv=>whnf);first|apply And.intro|exact bA (by subst_vars;assumption)|intro h9)
     all_goals(try(conv=>whnf))<;>(subst_vars;try first|(apply Tk.mk;kernel_rfl)|exact⟨ah rfl⟩|exact⟨rfl⟩|exact⟨trivial⟩|rfl|contradiction|(apply Ob.mk;(try simp only[ag,ak,aa.ae])<;>(try dsimp only)<;>omega))
     all_goals try first|trivial|exact⟨hL⟩
    ·repeat'((conv=>whnf);first|apply And.intro|exact bA (by subst_vars;assumption)|intro h9)
     all_goals(try(conv=>whnf))<;>(subst_vars;try first|(apply Tk.mk;kernel_rfl)|exact⟨ah rfl⟩|exact⟨rfl⟩|exact⟨trivial⟩|rfl|contradiction|(apply Ob.mk;(try simp only[ag,ak,aa.ae])<;>(try dsimp only)<;>omega))
     all_goals try first|exact⟨hL⟩
     refine⟨Unit,fun _=>True,fun _=>⟨aI 221 [0,5,9,25,27,28,29,30,31] [.a (.sl 0 [] 0 L.length),.a (.p 2 [] 0 0),.a (.p 3 [] 0 0),.a (vI 0),.a (.v (.slice none 0 0)),.a (vI 5),.a (.sl 4 [] 0 (akS (tx L l (wT t m) f) L L.length).length),.a (vI 0),.a (vI 0)],[],[.arr 67 kK L false false,.arr 3 kI I false false,.box true [vI l,vI t,vI f],.box true [vI l,vI (wT t m),vI f],.arr 3 kI (akS (tx L l (wT t m) f) L L.length) true true]⟩,fun _=>0,(),[0,1,2,3,5],trivial,?_,?_⟩
     ·repeat'((conv=>whnf)<;>first|apply And.intro|intro _|rfl|trivial|exact ah rfl|exact aS ‹_› rfl|exact aT ‹_› rfl|((repeat' first|rfl|constructor);done))
     intro _ _;repeat'((conv=>whnf);first|apply And.intro|exact bA (by subst_vars;assumption)|intro h9)
     all_goals(try(conv=>whnf))<;>(subst_vars;try first|(apply Tk.mk;kernel_rfl)|exact⟨ah rfl⟩|exact⟨rfl⟩|exact⟨trivial⟩|rfl|contradiction|(apply Ob.mk;(try simp only[ag,ak,aa.ae])<;>(try dsimp only)<;>omega))
     all_goals try first|trivial|exact⟨hL⟩
   ·repeat'((conv=>whnf);first|apply And.intro|exact bA (by subst_vars;assumption)|intro h9)
    all_goals(try(conv=>whnf))<;>(subst_vars;try first|(apply Tk.mk;kernel_rfl)|exact⟨ah rfl⟩|exact⟨rfl⟩|exact⟨trivial⟩|rfl|contradiction|(apply Ob.mk;(try simp only[ag,ak,aa.ae])<;>(try dsimp only)<;>omega))
    all_goals try first|exact⟨hL⟩
    refine⟨Unit,fun _=>True,fun _=>⟨aI 221 [0,5,9,22,23,24,25,26] [.a (.sl 0 [] 0 L.length),.a (.p 2 [] 0 0),.a (.p 3 [] 0 0),.a (.v (.slice none 0 0)),.a (vI 5),.a (.sl 4 [] 0 (akS (aCd L l (wT t m) f) L L.length).length),.a (vI 0),.a (vI 0)],[],[.arr 67 kK L false false,.arr 3 kI I false false,.box true [vI l,vI t,vI f],.box true [vI l,vI (wT t m),vI f],.arr 3 kI (akS (aCd L l (wT t m) f) L L.length) true true]⟩,fun _=>0,(),[0,1,2,3,4],trivial,?_,?_⟩
    ·repeat'((conv=>whnf)<;>first|apply And.intro|intro _|rfl|trivial|exact ah rfl|exact aS ‹_› rfl|exact aT ‹_› rfl|((repeat' first|rfl|constructor);done))
    intro _ _;cases y1:decide ((0:Int)<((akS (tx L l (wT t m) f) L L.length).length:Int))
    ·repeat'((conv=>whnf);first|apply And.intro|exact bA (by subst_vars;assumption)|intro h9)
     all_goals(try(conv=>whnf))<;>(subst_vars;try first|(apply Tk.mk;kernel_rfl)|exact⟨ah rfl⟩|exact⟨rfl⟩|exact⟨trivial⟩|rfl|contradiction|(apply Ob.mk;(try simp only[ag,ak,aa.ae])<;>(try dsimp only)<;>omega))
     all_goals try first|exact⟨hL⟩
     refine⟨Unit,fun _=>True,fun _=>⟨aI 221 [0,5,9,25,27,28,29,30,31] [.a (.sl 0 [] 0 L.length),.a (.p 2 [] 0 0),.a (.p 3 [] 0 0),.a (vI 0),.a (.v (.slice none 0 0)),.a (vI 5),.a (.sl 4 [] 0 (akS (tx L l (wT t m) f) L L.length).length),.a (vI 0),.a (vI 0)],[],[.arr 67 kK L false false,.arr 3 kI I false false,.box true [vI l,vI t,vI f],.box true [vI l,vI (wT t m),vI f],.arr 3 kI (akS (tx L l (wT t m) f) L L.length) true true]⟩,fun _=>0,(),[0,1,2,3,5],trivial,?_,?_⟩
     ·repeat'((conv=>whnf)<;>first|apply And.intro|intro _|rfl|trivial|exact ah rfl|exact aS ‹_› rfl|exact aT ‹_› rfl|((repeat' first|rfl|constructor);done))
     intro _ _;repeat'((conv=>whnf);first|apply And.intro|exact bA (by subst_vars;assumption)|intro h9)
     all_goals(try(conv=>whnf))<;>(subst_vars;try first|(apply Tk.mk;kernel_rfl)|exact⟨ah rfl⟩|exact⟨rfl⟩|exact⟨trivial⟩|rfl|contradiction|(apply Ob.mk;(try simp only[ag,ak,aa.ae])<;>(try dsimp only)<;>omega))
     all_goals try first|trivial|exact⟨hL⟩
    ·repeat'((conv=>whnf);first|apply And.intro|exact bA (by subst_vars;assumption)|intro h9)
     all_goals(try(conv=>whnf))<;>(subst_vars;try first|(apply Tk.mk;kernel_rfl)|exact⟨ah rfl⟩|exact⟨rfl⟩|exact⟨trivial⟩|rfl|contradiction|(apply Ob.mk;(try simp only[ag,ak,aa.ae])<;>(try dsimp only)<;>omega))
     all_goals try first|exact⟨hL⟩
     refine⟨Unit,fun _=>True,fun _=>⟨aI 221 [0,5,9,25,27,28,29,30,31] [.a (.sl 0 [] 0 L.length),.a (.p 2 [] 0 0),.a (.p 3 [] 0 0),.a (vI 0),.a (.v (.slice none 0 0)),.a (vI 5),.a (.sl 4 [] 0 (akS (tx L l (wT t m) f) L L.length).length),.a (vI 0),.a (vI 0)],[],[.arr 67 kK L false false,.arr 3 kI I false false,.box true [vI l,vI t,vI f],.box true [vI l,vI (wT t m),vI f],.arr 3 kI (akS (tx L l (wT t m) f) L L.length) true true]⟩,fun _=>0,(),[0,1,2,3,5],trivial,?_,?_⟩
     ·repeat'((conv=>whnf)<;>first|apply And.intro|intro _|rfl|trivial|exact ah rfl|exact aS ‹_› rfl|exact aT ‹_› rfl|((repeat' first|rfl|constructor);done))
     intro _ _;repeat'((conv=>whnf);first|apply And.intro|exact bA (by subst_vars;assumption)|intro h9)
     all_goals(try(conv=>whnf))<;>(subst_vars;try first|(apply Tk.mk;kernel_rfl)|exact⟨ah rfl⟩|exact⟨rfl⟩|exact⟨trivial⟩|rfl|contradiction|(apply Ob.mk;(try simp only[ag,ak,aa.ae])<;>(try dsimp only)<;>omega))
     all_goals try first|trivial|exact⟨hL⟩
  ·repeat'((conv=>whnf);first|apply And.intro|exact bA (by subst_vars;assumption)|intro h9)
   all_goals(try(conv=>whnf))<;>(subst_vars;try first|(apply Tk.mk;kernel_rfl)|exact⟨ah rfl⟩|exact⟨rfl⟩|exact⟨trivial⟩|rfl|contradiction|(apply Ob.mk;(try simp only[ag,ak,aa.ae])<;>(try dsimp only)<;>omega))
   all_goals try first|exact⟨hL⟩|exact⟨hI⟩
   refine⟨Unit,fun _=>True,fun _=>⟨aI 221 [0,5,9] [.a (.sl 0 [] 0 L.length),.a (.p 2 [] 0 0),.a (.p 3 [] 0 0)],[],[.arr 67 kK L false false,.arr 3 kI I false false,.box true [vI l,vI t,vI f],.box true [vI l,vI (wT t m),vI f]]⟩,?_,?_⟩
   ·cases hb:aD3 L l t f I
    ·repeat'((conv=>whnf);first|apply And.intro|exact bA (by subst_vars;assumption)|intro h9)
     all_goals(try(conv=>whnf))<;>(subst_vars;try first|(apply Tk.mk;kernel_rfl)|exact⟨ah rfl⟩|exact⟨rfl⟩|exact⟨trivial⟩|rfl|contradiction|(apply Ob.mk;(try simp only[ag,ak,aa.ae])<;>(try dsimp only)<;>omega))
     all_goals first
      |(refine⟨(),[0,1,2,3],trivial,?_⟩;(repeat'((conv=>whnf);(first|apply And.intro|intro _)));(all_goals first|rfl|trivial|exact ah rfl|exact aS ‹_› rfl|exact aT ‹_› rfl|((repeat' first|rfl|constructor);done));done)
    ·have q3:=p3 hb;repeat'((conv=>whnf);first|apply And.intro|exact bA (by subst_vars;assumption)|intro h9)
     all_goals(try(conv=>whnf))<;>(subst_vars;try first|(apply Tk.mk;kernel_rfl)|exact⟨ah rfl⟩|exact⟨rfl⟩|exact⟨trivial⟩|rfl|contradiction|(apply Ob.mk;(try simp only[ag,ak,aa.ae])<;>(try dsimp only)<;>omega))
     all_goals first
      |(refine⟨(),[0,1,2,3],trivial,?_⟩;(repeat'((conv=>whnf);(first|apply And.intro|intro _)));(all_goals first|rfl|trivial|exact ah rfl|exact aS ‹_› rfl|exact aT ‹_› rfl|((repeat' first|rfl|constructor);done));done)
   clear p3;intro _ _;repeat'((conv=>whnf);first|apply And.intro|exact bA (by subst_vars;assumption)|intro h9)
   all_goals(try(conv=>whnf))<;>(subst_vars;try first|(apply Tk.mk;kernel_rfl)|exact⟨ah rfl⟩|exact⟨rfl⟩|exact⟨trivial⟩|rfl|contradiction|(apply Ob.mk;(try simp only[ag,ak,aa.ae])<;>(try dsimp only)<;>omega))
   all_goals try first|exact⟨hL⟩
   refine⟨Unit,fun _=>True,fun _=>⟨aI 221 [0,5,9,22,23,24,25,26] [.a (.sl 0 [] 0 L.length),.a (.p 2 [] 0 0),.a (.p 3 [] 0 0),.a (.v (.slice none 0 0)),.a (vI 5),.a (.v (.slice none 0 0)),.a (vI 5),.a (vI 0)],[],[.arr 67 kK L false false,.arr 3 kI I false false,.box true [vI l,vI t,vI f],.box true [vI l,vI (wT t m),vI f]]⟩,fun _=>0,(),[0,1,2,3],trivial,?_,?_⟩
   ·repeat'((conv=>whnf)<;>first|apply And.intro|intro _|rfl|trivial|exact ah rfl|exact aS ‹_› rfl|exact aT ‹_› rfl|((repeat' first|rfl|constructor);done))
   intro _ _;repeat'((conv=>whnf);first|apply And.intro|exact bA (by subst_vars;assumption)|intro h9)
   all_goals(try(conv=>whnf))<;>(subst_vars;try first|(apply Tk.mk;kernel_rfl)|exact⟨ah rfl⟩|exact⟨rfl⟩|exact⟨trivial⟩|rfl|contradiction|(apply Ob.mk;(try simp only[ag,ak,aa.ae])<;>(try dsimp only)<;>omega))
   all_goals try first|exact⟨hL⟩
   refine⟨Unit,fun _=>True,fun _=>⟨aI 221 [0,5,9,25,27,28,29,30,31] [.a (.sl 0 [] 0 L.length),.a (.p 2 [] 0 0),.a (.p 3 [] 0 0),.a (vI 5),.a (.v (.slice none 0 0)),.a (vI 5),.a (.v (.slice none 0 0)),.a (vI 5),.a (vI 0)],[],[.arr 67 kK L false false,.arr 3 kI I false false,.box true [vI l,vI t,vI f],.box true [vI l,vI (wT t m),vI f]]⟩,fun _=>0,(),[0,1,2,3],trivial,?_,?_⟩
   ·repeat'((conv=>whnf)<;>first|apply And.intro|intro _|rfl|trivial|exact ah rfl|exact aS ‹_› rfl|exact aT ‹_› rfl|((repeat' first|rfl|constructor);done))
   intro _ _;repeat'((conv=>whnf);first|apply And.intro|exact bA (by subst_vars;assumption)|intro h9)
   all_goals(try(conv=>whnf))<;>(subst_vars;try first|(apply Tk.mk;kernel_rfl)|exact⟨ah rfl⟩|exact⟨rfl⟩|exact⟨trivial⟩|rfl|contradiction|(apply Ob.mk;(try simp only[ag,ak,aa.ae])<;>(try dsimp only)<;>omega))
   all_goals try first|trivial|exact⟨hL⟩)
def aIM:au:=nI (fun _ _ t _ _ _=>[(aa.of (t< -1152921504606846976\/1152921504606846976<t))]) (fun _ _ _ _ _ _=>bl true)
theorem aIF:au.Ok Try.prog Γ 19 aIM:=aIy (d:=0) (aL.aDD (aP aIB bq.nil false 0)) (aj Try.func19 rfl rfl) (fun _ _ _ _ _ _=>rfl) (by
 intro L l t f m I ⟨aII,_⟩;simp only[aa.ae]at aII;cases hs:alg L
 ·have w0:(!alg L)=true:=by rw[hs];rfl
  repeat'((conv=>whnf);first|apply And.intro|exact bA (by subst_vars;assumption)|intro h9)
  all_goals(try(conv=>whnf))<;>(subst_vars;try first|(apply Tk.mk;kernel_rfl)|exact⟨ah rfl⟩|exact⟨rfl⟩|exact⟨trivial⟩|rfl|contradiction|(apply Ob.mk;(try simp only[ag,ak,aa.ae])<;>(try dsimp only)<;>omega))
 have hL:=ayO hs;have w0:(!alg L)=false:=by rw[hs];rfl
 have a1:(bf L l t f !=0)=true:=by
  rw[bne_iff_ne];intro h;obtain⟨-,hw⟩:=gg h;have:=(wE hw).2.1;omega
 by_cases g1:I.length>20
 ·have d1:decide ((I.length:Int)>20)=true:=decide_eq_true (by omega)
  repeat'((conv=>whnf);first|apply And.intro|exact bA (by subst_vars;assumption)|intro h9)
  all_goals(try(conv=>whnf))<;>(subst_vars;try first|(apply Tk.mk;kernel_rfl)|exact⟨ah rfl⟩|exact⟨rfl⟩|exact⟨trivial⟩|rfl|contradiction|(apply Ob.mk;(try simp only[ag,ak,aa.ae])<;>(try dsimp only)<;>omega))
 have d1:decide ((I.length:Int)>20)=false:=decide_eq_false (by omega)
 by_cases g2:m<0
 ·have d2:decide (m<0)=true:=decide_eq_true g2;repeat'((conv=>whnf);first|apply And.intro|exact bA (by subst_vars;assumption)|intro h9)
  all_goals(try(conv=>whnf))<;>(subst_vars;try first|(apply Tk.mk;kernel_rfl)|exact⟨ah rfl⟩|exact⟨rfl⟩|exact⟨trivial⟩|rfl|contradiction|(apply Ob.mk;(try simp only[ag,ak,aa.ae])<;>(try dsimp only)<;>omega))
 have d2:decide (m<0)=false:=decide_eq_false g2;by_cases g3:m>1099511627776
 ·have d3:decide (m>1099511627776)=true:=decide_eq_true g3;repeat'((conv=>whnf);first|apply And.intro|exact bA (by subst_vars;assumption)|intro h9)
  all_goals(try(conv=>whnf))<;>(subst_vars;try first|(apply Tk.mk;kernel_rfl)|exact⟨ah rfl⟩|exact⟨rfl⟩|exact⟨trivial⟩|rfl|contradiction|(apply Ob.mk;(try simp only[ag,ak,aa.ae])<;>(try dsimp only)<;>omega))
 have d3:decide (m>1099511627776)=false:=decide_eq_false g3;repeat'((conv=>whnf);first|apply And.intro|exact bA (by subst_vars;assumption)|intro h9)
 all_goals(try(conv=>whnf))<;>(subst_vars;try first|(apply Tk.mk;kernel_rfl)|exact⟨ah rfl⟩|exact⟨rfl⟩|exact⟨trivial⟩|rfl|contradiction|(apply Ob.mk;(try simp only[ag,ak,aa.ae])<;>(try dsimp only)<;>omega))
 all_goals try first|exact⟨hL⟩)
def aIx:au:=nI (fun _ _ _ _ _ _=>[]) (fun _ _ _ _ _ _=>bl true)
theorem aIz {f:FuncId} {P:Int->Prop} {Q:Int->Prop} {F:List Bk->Int->Int->Int->Int->List Int->Tm} [DecidablePred P] [DecidablePred Q] (hpq:∀ t,P t\/Q t) (h1:au.Ok Try.prog Γ f (nI (fun _ _ t _ _ _=>[aa.of (P t)]) F)) (h2:au.Ok Try.prog Γ f (nI (fun _ _ t _ _ _=>[aa.of (Q t)]) F)):au.Ok Try.prog Γ f (nI (fun _ _ _ _ _ _=>[]) F):=by
 intro args rg q t hF hq
 (try unfold nI at hF)
 (try dsimp only at hF)
 split at hF;next x0 n0 n1 n2 n3 x1=>
  split at hF;next q0 L0 q1 L1 Vn iO=>
   obtain⟨rfl,rfl⟩:=Prod.mk.inj (Option.some.inj hF);rw[List.append_nil]at hq;obtain⟨aIh,gk⟩:=(aH _ _).1 hq;rcases hpq n1 with h|h
   ·exact h1 _ rg (q0++(q1++[aa.of (P n1)])) _ (by dsimp only;rw[Vn,iO]) ((aH _ _).2 ⟨aIh,(aH _ _).2 ⟨gk,h,trivial⟩⟩)
   ·exact h2 _ rg (q0++(q1++[aa.of (Q n1)])) _ (by dsimp only;rw[Vn,iO]) ((aH _ _).2 ⟨aIh,(aH _ _).2 ⟨gk,h,trivial⟩⟩)
  next=>cases hF
 next=>cases hF
theorem aIv:au.Ok Try.prog Γ 19 aIx:=aIz (P:=fun t=>-1152921504606846976<=t/\t<=1152921504606846976) (Q:=fun t=>t< -1152921504606846976\/1152921504606846976<t) (fun t=>by omega) aIE aIF
end Go.Proofs.Ytccnimhgjjnmoaa
end
