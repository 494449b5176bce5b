/-
  Texts of the claims: Ykab2z. No condition: lemmas and contracts.
-/
import Derived.Test.YtccnimhgjjnmoaaSya1z
import Derived.Test.YtccnimhgjjnmoaaSya2z
import Derived.Test.YtccnimhgjjnmoaaSya3z
import Derived.Test.YtccnimhgjjnmoaaSya4z
import Derived.Test.YtccnimhgjjnmoaaSya5z
import Derived.Test.YtccnimhgjjnmoaaPla6z
import Derived.Test.YtccnimhgjjnmoaaYka7z
import Derived.Test.YtccnimhgjjnmoaaYka8z
import Derived.Test.YtccnimhgjjnmoaaYka9z
import Derived.Test.YtccnimhgjjnmoaaYka10z
import Derived.Test.YtccnimhgjjnmoaaYka11z
import Derived.Test.YtccnimhgjjnmoaaYka12z
import Derived.Test.YtccnimhgjjnmoaaYka13z
import Derived.Test.YtccnimhgjjnmoaaYka14z
import Derived.Test.YtccnimhgjjnmoaaYka15z
import Derived.Test.YtccnimhgjjnmoaaYka16z
import Derived.Test.YtccnimhgjjnmoaaYka17z
import Derived.Test.YtccnimhgjjnmoaaYka18z
import Derived.Test.YtccnimhgjjnmoaaPlb1z
import Derived.Test.YtccnimhgjjnmoaaPld1z
import Derived.Test.YtccnimhgjjnmoaaPlf1z
import Derived.Test.YtccnimhgjjnmoaaPlp1z
import Derived.Test.YtccnimhgjjnmoaaYkp2z
import Derived.Test.YtccnimhgjjnmoaaPlr1z
import Derived.Test.YtccnimhgjjnmoaaYkr2z
import Derived.Test.YtccnimhgjjnmoaaPls1z
import Derived.Test.YtccnimhgjjnmoaaYks2z
import Derived.Test.YtccnimhgjjnmoaaPlab1z
set_option linter.all false
set_option maxRecDepth 100000
set_option maxHeartbeats 40000000
section
namespace Go.Proofs.Ytccnimhgjjnmoaa
open Go Go.Sy Go.dg
variable {Γ:bn}
attribute [local irreducible] blk
def apw:au:=fN (fun s=>[(aa.of (0<=s/\s<4611686018427387904))]) (fun s=> .a (vI (blk s.toNat)))
theorem aqw:au.Ok Try.prog Γ 66 apw:=y9 (d:=0) (aP aR.nil bq.nil false 0) (aj Try.func66 rfl rfl) (fun _=>rfl) (by
 intro s ⟨hs,_⟩;simp only[aa.ae]at hs;obtain⟨s,rfl⟩:∃ m:Nat,s=(m:Int):=⟨s.toNat,by omega⟩
 rw[Int.toNat_natCast];have Hg:=axy;have aAE:=azg;repeat'((conv=>whnf);first|apply And.intro|exact bA (by subst_vars;assumption)|intro h9)
 all_goals(try(conv=>whnf))<;>(subst_vars;try first|(apply Tk.mk;kernel_rfl)|exact⟨ah rfl⟩|exact⟨rfl⟩|exact⟨trivial⟩|rfl|contradiction|(apply Ob.mk;(try simp only[ag,ak,aa.ae])<;>(try dsimp only)<;>omega))
 refine⟨Nat×Nat,fun x=>x.1+blk x.2=blk s/\x.2<=s,fun x=>⟨aI 13 [0,3] [.a (vI x.2),.a (vI x.1)],[],[]⟩,fun x=>x.2,(0,s),[],⟨Nat.zero_add _,Nat.le_refl _⟩,?_,?_⟩
 ·repeat'((conv=>whnf)<;>first|apply And.intro|intro _|rfl|trivial|exact ah rfl|exact aS ‹_› rfl|exact aT ‹_› rfl|((repeat' first|rfl|constructor);done))
 rintro⟨n,t⟩ ⟨h1,h2⟩;dsimp only at h1 h2;have hn:n<=62:=by have:=Hg s;omega
 by_cases h0:0<t
 ·have p0:decide ((t:Int)>0)=true:=decide_eq_true (by omega)
  have hst:=aut (s:=t) (by omega)
  have e1:(n:Int)+(t:Int).tmod 2=((n+t%2:Nat):Int):=by rw[show(2:Int)=((2:Nat):Int)from rfl,<-Int.ofNat_tmod];omega
  have e2:(t:Int).tdiv 2=((t / 2:Nat):Int):=by rw[show(2:Int)=((2:Nat):Int)from rfl,<-Int.ofNat_tdiv]
  repeat'((conv=>whnf);first|apply And.intro|exact bA (by subst_vars;assumption)|intro h9)
  all_goals(try(conv=>whnf))<;>(subst_vars;try first|(apply Tk.mk;kernel_rfl)|exact⟨ah rfl⟩|exact⟨rfl⟩|exact⟨trivial⟩|rfl|contradiction|(apply Ob.mk;(try simp only[ag,ak,aa.ae])<;>(try dsimp only)<;>omega))
  refine⟨(n+t%2,t / 2),[],⟨by dsimp only;omega,by dsimp only;omega⟩,?_,by show t / 2<t;omega⟩
  dsimp only;rw[<-e1,<-e2];repeat'((conv=>whnf)<;>first|apply And.intro|intro _|rfl|trivial|exact ah rfl|exact aS ‹_› rfl|exact aT ‹_› rfl|((repeat' first|rfl|constructor);done))
 have p0:decide ((t:Int)>0)=false:=decide_eq_false (by omega)
 obtain rfl:t=0:=by omega
 have xW:n=blk s:=by rw[auu]at h1;omega
 subst xW;repeat'((conv=>whnf);first|apply And.intro|exact bA (by subst_vars;assumption)|intro h9)
 all_goals(try(conv=>whnf))<;>(subst_vars;try first|(apply Tk.mk;kernel_rfl)|exact⟨ah rfl⟩|exact⟨rfl⟩|exact⟨trivial⟩|rfl|contradiction|(apply Ob.mk;(try simp only[ag,ak,aa.ae])<;>(try dsimp only)<;>omega)))
end Go.Proofs.Ytccnimhgjjnmoaa
end
section
namespace Go.Proofs.Ytccnimhgjjnmoaa
open Go Go.Sy Go.dg
variable {Γ:bn}
def axP (D:List Bk->Int->List aa) (R:List Bk->Int->cM):au:=.new fun args rg K=>match args with
 |[.a x0,.a (.v (.int .i64 n0))]=>(match ac1 67 kK rg x0 with|some (q0,L0)=>aBP false (q0++(D L0 n0)) (K (R L0 n0))|_=>False)
 |_=>False
theorem awK {f:FuncId} {b:Body} {E:Env} {d:Nat} (hP:aL Try.prog Γ E) (hb:bQ Try.prog f b) {D:List Bk->Int->List aa} {R:List Bk->Int->cM}
 (H:∀ (L0:List Bk) (n0:Int) (K:cM->Prop),bW (D L0 n0)->K (R L0 n0)->cQ E d b [.a (.sl 0 [] 0 L0.length),.a (vI n0)] [.arr 67 kK L0 false false] (bu K)):au.Ok Try.prog Γ f (axP D R):=au.fM (d:=d) hP hb (by
 intro args rg K hF;split at hF;next x0 n0=>
  split at hF;next q0 L0 hx0=>
   rw[aV,aH]at hF;obtain⟨⟨aIh,hD⟩,hK⟩:=hF;obtain⟨e0,Vn⟩:=bP (by simp[kK]) hx0 aIh
   obtain⟨p0,r0⟩:=Vn [e0] 0 1 rfl (by omega)
   refine⟨[e0],[.a (.sl 0 [] 0 L0.length),.a (vI n0)],[.arr 67 kK L0 false false],⟨⟨p0,rfl,trivial⟩,fun r g hg=>?_⟩,bu K,H _ _ K hD hK,fun x st h=>h⟩
   match r,hg with
   |0,hg=>obtain rfl:=Option.some.inj hg;exact r0
  next=>exact hF.elim
 next=>exact hF.elim)
attribute [local irreducible] ck gi wN sub blk akv eg
def ayr (L:List Bk) (s:Int):cM:=⟨[.arr 3 kI (eg L s.toNat) true true],.a (.sl 0 [] 0 (eg L s.toNat).length)⟩
def avI:au:=axP (fun L s=>[aoI L,(aa.of (0<=s/\s<4611686018427387904))]) ayr
noncomputable def azJ:List (Nat×au):=[(59,arT)]
theorem awe:aR Try.prog Γ azJ:=(aR.nil.cons (aj Try.func59 rfl rfl).fn aoj)
theorem auA:au.Ok Try.prog Γ 29 avI:=awK (d:=0) (aP awe bq.nil false 0) (aj Try.func29 rfl rfl) (by
 intro L s K ⟨hB,hs,_⟩ hK;simp only[aa.ae]at hs;replace hB:gb L:=hB;obtain⟨s,rfl⟩:∃ m:Nat,s=(m:Int):=⟨s.toNat,by omega⟩
 have hl:=hB.Kg;unfold ayr at hK;have h0:eg (L.take 0) s=[]:=by rw[List.take_zero];unfold eg;rfl
 have az7:(0:Nat)=(eg (L.take 0) s).length:=by rw[h0];rfl
 repeat'((conv=>whnf);first|apply And.intro|exact bA (by subst_vars;assumption)|intro h9)
 all_goals(try(conv=>whnf))<;>(subst_vars;try first|(apply Tk.mk;kernel_rfl)|exact⟨ah rfl⟩|exact⟨rfl⟩|exact⟨trivial⟩|rfl|contradiction|(apply Ob.mk;(try simp only[ag,ak,aa.ae])<;>(try dsimp only)<;>omega))
 refine⟨Nat,fun i=>i<=L.length,fun i=>⟨aI 25 [0,1,5,6] [.a (.sl 0 [] 0 L.length),.a (vI s),.a (.sl 1 [] 0 (eg (L.take i) s).length),.a (vI i)],[],[.arr 67 kK L false false,.arr 3 kI (eg (L.take i) s) true true]⟩,fun i=>L.length-i,0,[0,1000],Nat.zero_le _,?_,?_⟩
 ·repeat'((conv=>whnf)<;>first|apply And.intro|intro _|rfl|trivial|exact ah rfl|exact aS ‹_› rfl|exact aT ‹_› rfl|((repeat' first|rfl|constructor);done)|exact h0|exact az7.symm)
 rintro i hi;have DG:(eg (L.take i) s).length<=20:=by have:=arb (L.take i) s;rw[List.length_take]at this;omega
 by_cases hi1:i<L.length
 ·have p0:decide ((i:Int)<(L.length:Int))=true:=decide_eq_true (by omega)
  have hst:=ava hi1 s;rw[show bk L i=gr L i from(tb L i).symm]at hst;cases hb:gi (Int.toNat (i:Int)) (Int.toNat (s:Int))
  ·have hb':gi i s=false:=by simpa using hb
   rw[hb']at hst;simp only[Bool.false_eq_true,if_false]at hst;repeat'((conv=>whnf);first|apply And.intro|exact bA (by subst_vars;assumption)|intro h9)
   all_goals(try(conv=>whnf))<;>(subst_vars;try first|(apply Tk.mk;kernel_rfl)|exact⟨ah rfl⟩|exact⟨rfl⟩|exact⟨trivial⟩|rfl|contradiction|(apply Ob.mk;(try simp only[ag,ak,aa.ae])<;>(try dsimp only)<;>omega))
   all_goals
    refine⟨i+1,[0,1],hi1,?_,by show L.length-(i+1)<L.length-i;omega⟩
    dsimp only;rw[hst];repeat'((conv=>whnf)<;>first|apply And.intro|intro _|rfl|trivial|exact ah rfl|exact aS ‹_› rfl|exact aT ‹_› rfl|((repeat' first|rfl|constructor);done))
  have hb':gi i s=true:=by simpa using hb
  rw[hb']at hst;simp only[if_true]at hst;have amC:=congrArg List.length hst;rw[List.length_append,List.length_singleton]at amC;repeat'((conv=>whnf);first|apply And.intro|exact bA (by subst_vars;assumption)|intro h9)
  all_goals(try(conv=>whnf))<;>(subst_vars;try first|(apply Tk.mk;kernel_rfl)|exact⟨ah rfl⟩|exact⟨rfl⟩|exact⟨trivial⟩|rfl|contradiction|(apply Ob.mk;(try simp only[ag,ak,aa.ae])<;>(try dsimp only)<;>omega))
  all_goals try first|exact⟨show 0+Int.toNat (i:Int)<L.length by omega⟩|exact⟨Nat.zero_add _⟩|exact⟨show((eg (L.take i) s).length+1)*1<=1099511627776 by omega⟩
  all_goals
   refine⟨i+1,[0,1],hi1,?_,by show L.length-(i+1)<L.length-i;omega⟩
   repeat'((conv=>whnf)<;>first|apply And.intro|intro _|rfl|trivial|exact ah rfl|exact aS ‹_› rfl|exact aT ‹_› rfl|((repeat' first|rfl|constructor);done)|exact amC.symm|exact⟨rfl,rfl,hst.symm⟩)
 have p0:decide ((i:Int)<(L.length:Int))=false:=decide_eq_false (by omega)
 have ht:eg L s=eg (L.take i) s:=by rw[List.take_of_length_le (by omega)]
 rw[Int.toNat_natCast,ht]at hK;repeat'((conv=>whnf);first|apply And.intro|exact bA (by subst_vars;assumption)|intro h9)
 all_goals(try(conv=>whnf))<;>(subst_vars;try first|(apply Tk.mk;kernel_rfl)|exact⟨ah rfl⟩|exact⟨rfl⟩|exact⟨trivial⟩|rfl|contradiction|(apply Ob.mk;(try simp only[ag,ak,aa.ae])<;>(try dsimp only)<;>omega))
 refine bu.base ⟨_,[1],hK,⟨rfl,rfl,by simp,trivial⟩,rfl,?_⟩
 repeat'((conv=>whnf)<;>first|apply And.intro|intro _|rfl|trivial))
end Go.Proofs.Ytccnimhgjjnmoaa
end
section
namespace Go.Proofs.Ytccnimhgjjnmoaa
open Go Go.Sy Go.dg
variable {Γ:bn}
attribute [local irreducible] ck gi wN sub blk akv eg RK eA l7 kB akM
def aoe:au:=auP (fun L a b=>[aoI L,(aa.of (0<=a/\a.toNat<2^L.length)),(aa.of (0<=b/\b.toNat<2^L.length))]) (fun L a b=>bl (eA L.length a.toNat b.toNat))
noncomputable def axk:List (Nat×au):=[(59,arT),(66,apw)]
theorem ass:aR Try.prog Γ axk:=((aR.nil.cons (aj Try.func66 rfl rfl).fn aqw).cons (aj Try.func59 rfl rfl).fn aoj)
theorem anD:au.Ok Try.prog Γ 60 aoe:=aqW (d:=0) (aP ass bq.nil false 0) (aj Try.func60 rfl rfl) (fun _ _ _=>rfl) (by
 intro L a b ⟨hB,ha,hb,_⟩;simp only[aa.ae]at ha hb;replace hB:gb L:=hB;have hn:=hB.Kg;obtain⟨a,rfl⟩:∃ m:Nat,a=(m:Int):=⟨a.toNat,by omega⟩
 obtain⟨b,rfl⟩:∃ m:Nat,b=(m:Int):=⟨b.toNat,by omega⟩
 rw[Int.toNat_natCast]at ha hb;have a1:=ap9 hn ha.2;have b1:=ap9 hn hb.2;obtain h|h:((blk (Int.toNat (a:Int)):Int)!=(blk (Int.toNat (b:Int)):Int))=true\/((blk (Int.toNat (a:Int)):Int)!=(blk (Int.toNat (b:Int)):Int))=false:=by cases((blk (Int.toNat (a:Int)):Int)!=(blk (Int.toNat (b:Int)):Int))<;>simp
 ·have e:=(aup (n:=L.length) (by omega) ha.2 hb.2 h).symm
  repeat'((conv=>whnf);first|apply And.intro|exact bA (by subst_vars;assumption)|intro h9)
  all_goals(try(conv=>whnf))<;>(subst_vars;try first|(apply Tk.mk;kernel_rfl)|exact⟨ah rfl⟩|exact⟨rfl⟩|exact⟨trivial⟩|rfl|contradiction|(apply Ob.mk;(try simp only[ag,ak,aa.ae])<;>(try dsimp only)<;>omega))
  all_goals first|trivial
 have e:=auo (n:=L.length) (by omega) ha.2 hb.2 h
 rw[Int.toNat_natCast,Int.toNat_natCast,e];have hz:∀ x:Nat,x / 2^0=x:=fun x=>by simp
 repeat'((conv=>whnf);first|apply And.intro|exact bA (by subst_vars;assumption)|intro h9)
 all_goals(try(conv=>whnf))<;>(subst_vars;try first|(apply Tk.mk;kernel_rfl)|exact⟨ah rfl⟩|exact⟨rfl⟩|exact⟨trivial⟩|rfl|contradiction|(apply Ob.mk;(try simp only[ag,ak,aa.ae])<;>(try dsimp only)<;>omega))
 refine⟨Nat,fun i=>i<=L.length/\l7 L.length a b=l7 (L.length-i) (a / 2^i) (b / 2^i),fun i=>⟨aI 36 [0,1,2,9] [.a (.sl 0 [] 0 L.length),.a (vI a),.a (vI b),.a (vI i)],[],[.arr 67 kK L false false]⟩,fun i=>L.length-i,0,[0],⟨Nat.zero_le _,by rw[hz,hz];rfl⟩,?_,?_⟩
 ·repeat'((conv=>whnf)<;>first|apply And.intro|intro _|rfl|trivial|exact ah rfl|exact aS ‹_› rfl|exact aT ‹_› rfl|((repeat' first|rfl|constructor);done))
 rintro i ⟨hi,hd⟩;by_cases hi1:i<L.length
 ·have p0:decide ((i:Int)<(L.length:Int))=true:=decide_eq_true (by omega)
  have hst:=as6 (a:=a) (b:=b) hi1;by_cases hq:gi i a=gi i b
  ·have e1:(!(gi (Int.toNat (i:Int)) (Int.toNat (a:Int))==gi (Int.toNat (i:Int)) (Int.toNat (b:Int))))=false:=by rw[Int.toNat_natCast,Int.toNat_natCast,Int.toNat_natCast,hq];simp
   rw[if_pos hq]at hst;repeat'((conv=>whnf);first|apply And.intro|exact bA (by subst_vars;assumption)|intro h9)
   all_goals(try(conv=>whnf))<;>(subst_vars;try first|(apply Tk.mk;kernel_rfl)|exact⟨ah rfl⟩|exact⟨rfl⟩|exact⟨trivial⟩|rfl|contradiction|(apply Ob.mk;(try simp only[ag,ak,aa.ae])<;>(try dsimp only)<;>omega))
   all_goals
    refine⟨i+1,[0],⟨hi1,hd.trans hst⟩,?_,by show L.length-(i+1)<L.length-i;omega⟩
    repeat'((conv=>whnf)<;>first|apply And.intro|intro _|rfl|trivial|exact ah rfl|exact aS ‹_› rfl|exact aT ‹_› rfl|((repeat' first|rfl|constructor);done))
  have e1:(!(gi (Int.toNat (i:Int)) (Int.toNat (a:Int))==gi (Int.toNat (i:Int)) (Int.toNat (b:Int))))=true:=by rw[Int.toNat_natCast,Int.toNat_natCast,Int.toNat_natCast];simpa using hq
  rw[if_neg hq]at hst;have e2:gi (Int.toNat (i:Int)) (Int.toNat (a:Int))=l7 L.length a b:=(hd.trans hst).symm;repeat'((conv=>whnf);first|apply And.intro|exact bA (by subst_vars;assumption)|intro h9)
  all_goals(try(conv=>whnf))<;>(subst_vars;try first|(apply Tk.mk;kernel_rfl)|exact⟨ah rfl⟩|exact⟨rfl⟩|exact⟨trivial⟩|rfl|contradiction|(apply Ob.mk;(try simp only[ag,ak,aa.ae])<;>(try dsimp only)<;>omega))
  all_goals first|trivial
 have p0:decide ((i:Int)<(L.length:Int))=false:=decide_eq_false (by omega)
 have e2:l7 L.length a b=false:=by rw[hd,show L.length-i=0 by omega];unfold l7;rfl
 rw[e2];repeat'((conv=>whnf);first|apply And.intro|exact bA (by subst_vars;assumption)|intro h9)
 all_goals(try(conv=>whnf))<;>(subst_vars;try first|(apply Tk.mk;kernel_rfl)|exact⟨ah rfl⟩|exact⟨rfl⟩|exact⟨trivial⟩|rfl|contradiction|(apply Ob.mk;(try simp only[ag,ak,aa.ae])<;>(try dsimp only)<;>omega)))
end Go.Proofs.Ytccnimhgjjnmoaa
end
section
namespace Go.Proofs.Ytccnimhgjjnmoaa
open Go Go.Sy Go.dg
variable {Γ:bn}
abbrev tC (b:Option (Nat×Nat)):At:=match b with|none=> .ff|some _=> .tt
theorem aFG (is:List Nat) (m n:Nat) (b:Option (Nat×Nat)):DP is m n (tC b) (tC b):=by cases b<;>trivial
def tO (L:List Bk) (l t f l' t' f':Int) (i:Nat):Option (Nat×Nat):=((aD7 l t f L).take i).foldl (fun b x=>(aD7 l' t' f' L).foldl (asn L.length x) b) none
def tI (L:List Bk) (l t f l' t' f':Int) (i j:Nat):Option (Nat×Nat):=((aD7 l' t' f' L).take j).foldl (asn L.length (ca (gf l t f L) i).toNat) (tO L l t f l' t' f' i)
theorem aE6 {l t f:Int} {L:List Bk} {i:Nat} (h:i<(gf l t f L).length):(aD7 l t f L).take (i+1)=(aD7 l t f L).take i++[(ca (gf l t f L) i).toNat]:=by
 rw[alf h];unfold aD7;rw[List.take_succ,List.getElem?_map,List.getElem?_eq_getElem h];rfl
section
variable {L:List Bk} {l t f l' t' f':Int} {i j:Nat}
theorem aGE:tO L l t f l' t' f' 0=none:=rfl
theorem aGC:tI L l t f l' t' f' i 0=tO L l t f l' t' f' i:=rfl
theorem aGB (h:j<(gf l' t' f' L).length):tI L l t f l' t' f' i (j+1)=asn L.length (ca (gf l t f L) i).toNat (tI L l t f l' t' f' i j) (ca (gf l' t' f' L) j).toNat:=by
 unfold tI;rw[aE6 h,List.foldl_append];rfl
theorem aGD (hi:i<(gf l t f L).length) (hj:(gf l' t' f' L).length<=j):tI L l t f l' t' f' i j=tO L l t f l' t' f' (i+1):=by
 unfold tI tO;rw[aE6 hi,List.foldl_append,List.take_of_length_le (l:=aD7 l' t' f' L) (by unfold aD7;rw[List.length_map];exact hj)];rfl
theorem aG5 (hi:(gf l t f L).length<=i):tO L l t f l' t' f' i=rT L l t f l' t' f':=by
 unfold tO rT aFF;rw[List.take_of_length_le (by unfold aD7;rw[List.length_map];exact hi)]
theorem aE7 (h:i<(gf l t f L).length):0<=ca (gf l t f L) i/\(ca (gf l t f L) i).toNat<2^L.length/\(ca (gf l t f L) i).toNat≠0:=by
 rw[alf h];obtain⟨s,h1,h2,h3⟩:=aoq.1 (List.getElem_mem h);rw[h1,Int.toNat_natCast];refine⟨by omega,h2,?_⟩
 rw[apQ,Bool.and_eq_true,decide_eq_true_eq]at h3;exact h3.1
def aES (n:Nat) (b:Option (Nat×Nat)):Prop:=∀ p q,b=some (p,q)->p<2^n/\q<2^n
theorem aGy {n x y:Nat} {b:Option (Nat×Nat)} (hb:aES n b) (hx:x<2^n) (hy:y<2^n):aES n (asn n x b y):=by
 unfold asn;split
 ·split
  ·intro p q e;cases e;exact⟨hx,hy⟩
  ·split
   ·intro p q e;cases e;exact⟨hx,hy⟩
   ·exact hb
 ·exact hb
theorem BJ {n x:Nat} (hx:x<2^n):∀ (l:List Nat) {b:Option (Nat×Nat)},aES n b->(∀ y∈l,y<2^n)->aES n (l.foldl (asn n x) b)
 |[],_,h,_=>h
 |y::l,_,h,hl=>BJ hx l (aGy h hx (hl y (List.mem_cons_self ..))) fun z hz=>hl z (List.mem_cons_of_mem _ hz)
theorem aFg {n:Nat} {l2:List Nat} (h2:∀ y∈l2,y<2^n):∀ (l1:List Nat) {b:Option (Nat×Nat)},aES n b->(∀ x∈l1,x<2^n)->aES n (l1.foldl (fun b x=>l2.foldl (asn n x) b) b)
 |[],_,h,_=>h
 |x::l,_,h,hl=>aFg h2 l (BJ (hl x (List.mem_cons_self ..)) l2 h h2) fun z hz=>hl z (List.mem_cons_of_mem _ hz)
theorem aEo:∀ x∈aD7 l t f L,x<2^L.length:=fun x hx=>by
 obtain⟨z,hz,rfl⟩:=List.mem_map.1 hx;exact(atq l t f L z hz).2
theorem aHb (hi:i<(gf l t f L).length):aES L.length (tI L l t f l' t' f' i j):=BJ (aE7 hi).2.1 _ (aFg aEo _ (fun p q e=>by cases e) fun x hx=>aEo x (List.mem_of_mem_take hx)) fun y hy=>aEo y (List.mem_of_mem_take hy)
end
theorem afp {n x y p q:Nat} (hn:n<=20) (hx:x<2^n) (hy:y<2^n) (hp:p<2^n) (hq:q<2^n):
 akI n x y p q=(decide ((blk x:Int)+(blk y:Int)<(blk p:Int)+(blk q:Int))||((((blk x:Int)+(blk y:Int)==(blk p:Int)+(blk q:Int)))&&(eA n x p||(((x:Int)==(p:Int))&&eA n y q)))):=by
 unfold akI;rw[alN (by omega) hx,alN (by omega) hy,alN (by omega) hp,alN (by omega) hq]
 have e1:decide (cnt n x+cnt n y<cnt n p+cnt n q)=decide ((cnt n x:Int)+(cnt n y:Int)<(cnt n p:Int)+(cnt n q:Int)):=decide_eq_decide.2 (by omega)
 have e2:decide (cnt n x+cnt n y=cnt n p+cnt n q)=((cnt n x:Int)+(cnt n y:Int)==(cnt n p:Int)+(cnt n q:Int)):=by
  rw[Bool.eq_iff_iff,decide_eq_true_eq,beq_iff_eq];omega
 have e3:decide (x=p)=((x:Int)==(p:Int)):=by
  rw[Bool.eq_iff_iff,decide_eq_true_eq,beq_iff_eq];omega
 rw[e1,e2,e3]
theorem aFo {n x:Nat} (hn:n<=20) (hx:x<2^n) (h0:x≠0):0<blk x:=by rw[alN (by omega) hx];exact aon hx h0
theorem auu:blk 0=0:=by rw[alN (n:=0) (by omega) (by omega)];rfl
attribute [local irreducible] ck gi wN sub blk gf eA tO tI
def aF3 (D:List Bk->Int->Int->Int->Int->Int->Int->List aa) (F:List Bk->Int->Int->Int->Int->Int->Int->Tm):au:=.fn fun args rg=>match args with
 |[.a x0,.agg [.v (.int .i64 n0),.v (.int .i64 n1),.v (.int .i64 n2)],.agg [.v (.int .i64 n3),.v (.int .i64 n4),.v (.int .i64 n5)]]=>(match ac1 67 kK rg x0 with|some (q0,L0)=>some (q0++(D L0 n0 n1 n2 n3 n4 n5),F L0 n0 n1 n2 n3 n4 n5)|_=>none)
 |_=>none
theorem aFq {f:FuncId} {b:Body} {E:Env} {d:Nat} (hP:aL Try.prog Γ E) (hb:bQ Try.prog f b) {D:List Bk->Int->Int->Int->Int->Int->Int->List aa} {F:List Bk->Int->Int->Int->Int->Int->Int->Tm} (hp:∀ (L0:List Bk) (n0:Int) (n1:Int) (n2:Int) (n3:Int) (n4:Int) (n5:Int),(F L0 n0 n1 n2 n3 n4 n5).plain=true)
 (H:∀ (L0:List Bk) (n0:Int) (n1:Int) (n2:Int) (n3:Int) (n4:Int) (n5:Int),bW (D L0 n0 n1 n2 n3 n4 n5)->cQ E d b [.a (.sl 0 [] 0 L0.length),.agg [vI n0,vI n1,vI n2],.agg [vI n3,vI n4,vI n5]] [.arr 67 kK L0 false false] (fun x _=>iL x (F L0 n0 n1 n2 n3 n4 n5))):au.Ok Try.prog Γ f (aF3 D F):=au.aBp (d:=d) hP hb (by
 intro args rg q t hF hq;split at hF;next x0 n0 n1 n2 n3 n4 n5=>
  split at hF;next q0 L0 hx0=>
   obtain⟨rfl,rfl⟩:=Prod.mk.inj (Option.some.inj hF);clear hF;rw[aH]at hq;obtain⟨aIh,hD⟩:=hq;obtain⟨e0,Vn⟩:=bP (by simp[kK]) hx0 aIh
   obtain⟨p0,r0⟩:=Vn [e0] 0 1 rfl (by omega)
   refine⟨hp _ _ _ _ _ _ _,[e0],[.a (.sl 0 [] 0 L0.length),.agg [vI n0,vI n1,vI n2],.agg [vI n3,vI n4,vI n5]],[.arr 67 kK L0 false false],⟨⟨p0,⟨rfl,rfl,rfl,trivial⟩,⟨rfl,rfl,rfl,trivial⟩,trivial⟩,fun r g hg=>?_⟩,H _ _ _ _ _ _ _ hD⟩
   match r,hg with
   |0,hg=>obtain rfl:=Option.some.inj hg;exact r0
  next=>cases hF
 next=>cases hF)
def aE5:au:=aF3 (fun L l t f l' t' f'=>[aoI L,(aa.of (0<=f/\f<=1000000)),(aa.of (-1152921504606846976<=l/\l<=1152921504606846976)),(aa.of (-1152921504606846976<=t/\t<=1152921504606846976)),(aa.of (0<=f'/\f'<=1000000)),(aa.of (-1152921504606846976<=l'/\l'<=1152921504606846976)),(aa.of (-1152921504606846976<=t'/\t'<=1152921504606846976))]) (fun L l t f l' t' f'=> .agg [vI (tA (rT L l t f l' t' f')),vI (tB (rT L l t f l' t' f')),.v (.bool (rT L l t f l' t' f').isSome)])
noncomputable def aHe:List (Nat×au):=[(27,aqK),(66,apw),(60,aoe)]
theorem aGM:aR Try.prog Γ aHe:=(((aR.nil.cons (aj Try.func60 rfl rfl).fn anD).cons (aj Try.func66 rfl rfl).fn aqw).cons (aj Try.func27 rfl rfl).fn arO)
def aHy (id:Nat):Option (List Nat):=match Nat.beq id 14 with|true=>some [0,1,2,3,4,5,6,7]|false=>none
noncomputable def aHu:Env:={jV.env aHe [] false 0 with ord:=aHy}
theorem aGs:aL Try.prog Γ aHu:=(aP aGM bq.nil false 0).Ju _
theorem aFk:au.Ok Try.prog Γ 34 aE5:=aFq (d:=0) aGs (aj Try.func34 rfl rfl) (fun _ _ _ _ _ _ _=>rfl) (by
 intro L l t f l' t' f' ⟨hB,hf,hl,ht,aAH,hl',ht',_⟩;simp only[aa.ae]at hf hl ht aAH hl' ht';replace hB:gb L:=hB;have hn:=hB.Kg;have aHx:=akO hn;have n1:=awR l t f L;have n2:=awR l' t' f' L;repeat'((conv=>whnf);first|apply And.intro|exact bA (by subst_vars;assumption)|intro h9)
 all_goals(try(conv=>whnf))<;>(subst_vars;try first|(apply Tk.mk;kernel_rfl)|exact⟨ah rfl⟩|exact⟨rfl⟩|exact⟨trivial⟩|rfl|contradiction|(apply Ob.mk;(try simp only[ag,ak,aa.ae])<;>(try dsimp only)<;>omega))
 all_goals try first|exact⟨hB⟩
 refine⟨Nat,fun i=>i<=(gf l t f L).length,fun i=>⟨aI 97 [0,4,5,6,7,8,9,10] [.a (.sl 0 [] 0 L.length),.a (.p 1 [] 0 0),.a (.p 2 [] 0 0),.a (.p 3 [] 0 0),.a (.sl 4 [] 0 (gf l t f L).length),.a (.sl 5 [] 0 (gf l' t' f' L).length),.a (.p 6 [] 0 0),.a (vI i)],[],[.arr 67 kK L false false,.box true [vI l,vI t,vI f],.box true [vI l',vI t',vI f'],.box true [vI 0,vI 0,.ff],.arr 3 kI (gf l t f L) true true,.arr 3 kI (gf l' t' f' L) true true,.box true [vI (tA (tO L l t f l' t' f' i)),vI (tB (tO L l t f l' t' f' i)),tC (tO L l t f l' t' f' i)]]⟩,fun i=>(gf l t f L).length-i,0,[0,1,2,3,4,5,6],Nat.zero_le _,?_,?_⟩
 ·dsimp only;rw[aGE];repeat'((conv=>whnf)<;>first|apply And.intro|intro _|rfl|trivial|exact ah rfl|exact aS ‹_› rfl|exact aT ‹_› rfl|((repeat' first|rfl|constructor);done))
 intro i hi;by_cases hi1:i<(gf l t f L).length
 ·have p0:decide ((i:Int)<((gf l t f L).length:Int))=true:=decide_eq_true (by omega)
  obtain⟨x0,x1,x2⟩:=aE7 hi1;repeat'((conv=>whnf);first|apply And.intro|exact bA (by subst_vars;assumption)|intro h9)
  all_goals(try(conv=>whnf))<;>(subst_vars;try first|(apply Tk.mk;kernel_rfl)|exact⟨ah rfl⟩|exact⟨rfl⟩|exact⟨trivial⟩|rfl|contradiction|(apply Ob.mk;(try simp only[ag,ak,aa.ae])<;>(try dsimp only)<;>omega))
  refine⟨Nat,fun j=>j<=(gf l' t' f' L).length,fun j=>⟨aI 97 [0,4,5,6,7,8,9,10,11] [.a (.sl 0 [] 0 L.length),.a (.p 1 [] 0 0),.a (.p 2 [] 0 0),.a (.p 3 [] 0 0),.a (.sl 4 [] 0 (gf l t f L).length),.a (.sl 5 [] 0 (gf l' t' f' L).length),.a (.p 6 [] 0 0),.a (vI i),.a (vI j)],[],[.arr 67 kK L false false,.box true [vI l,vI t,vI f],.box true [vI l',vI t',vI f'],.box true [vI 0,vI 0,.ff],.arr 3 kI (gf l t f L) true true,.arr 3 kI (gf l' t' f' L) true true,.box true [vI (tA (tI L l t f l' t' f' i j)),vI (tB (tI L l t f l' t' f' i j)),tC (tI L l t f l' t' f' i j)]]⟩,fun j=>(gf l' t' f' L).length-j,0,[0,1,2,3,4,5,6],Nat.zero_le _,?_,?_⟩
  ·dsimp only;rw[aGC];repeat'((conv=>whnf)<;>first|apply And.intro|intro _|rfl|trivial|exact ah rfl|exact aS ‹_› rfl|exact aT ‹_› rfl|((repeat' first|rfl|constructor);done)|exact aFG _ _ _ _)
  intro j hj;by_cases Ho:j<(gf l' t' f' L).length
  ·have q0:decide ((j:Int)<((gf l' t' f' L).length:Int))=true:=decide_eq_true (by omega)
   obtain⟨y0,y1,y2⟩:=aE7 Ho;have x3:-9223372036854775808<=ca (gf l t f L) i:=by omega
   have x4:ca (gf l t f L) i<=9223372036854775807:=by omega
   have y3:-9223372036854775808<=ca (gf l' t' f' L) j:=by omega
   have y4:ca (gf l' t' f' L) j<=9223372036854775807:=by omega
   have hst:=aGB (l:=l) (t:=t) (f:=f) (i:=i) Ho;by_cases hd:(ca (gf l t f L) i).toNat &&& (ca (gf l' t' f' L) j).toNat=0
   ·have d0:((((ca (gf l t f L) i).toNat &&& (ca (gf l' t' f' L) j).toNat:Nat):Int)!=0)=false:=by rw[hd];rfl
    have hok:=aHb (l:=l) (t:=t) (f:=f) (l':=l') (t':=t') (f':=f') (j:=j) hi1;dsimp only;generalize tI L l t f l' t' f' i j=b at*;have aH1:=aFo hn x1 x2;have aH2:=aFo hn y1 y2;have aH3:blk (ca (gf l t f L) i).toNat<=20:=by rw[alN (by omega) x1];exact Nat.le_trans (ajs _ _) hn
    have aH4:blk (ca (gf l' t' f' L) j).toNat<=20:=by rw[alN (by omega) y1];exact Nat.le_trans (ajs _ _) hn
    have xe:ca (gf l t f L) i=(((ca (gf l t f L) i).toNat:Nat):Int):=by omega
    have ye:ca (gf l' t' f' L) j=(((ca (gf l' t' f' L) j).toNat:Nat):Int):=by omega
    unfold asn at hst;rw[if_pos hd]at hst;have x5:0<=ca (gf l t f L) i/\ca (gf l t f L) i<4611686018427387904:=by omega
    have y5:0<=ca (gf l' t' f' L) j/\ca (gf l' t' f' L) j<4611686018427387904:=by omega
    have r1:ak .i64 (((blk (ca (gf l t f L) i).toNat:Nat):Int)+((blk (ca (gf l' t' f' L) j).toNat:Nat):Int)):=by simp only[ak];omega
    cases b with
    |none=>
     dsimp only at hst;have c0:blk (Int.toNat (0:Int))=0:=auu;have p3:(0:Int)<=0/\(0:Int)<4611686018427387904:=by omega
     have r2:ak .i64 (((blk (Int.toNat (0:Int)):Nat):Int)+((blk (Int.toNat (0:Int)):Nat):Int)):=by rw[c0];simp only[ak];omega
     have c1:decide (((blk (ca (gf l t f L) i).toNat:Nat):Int)+((blk (ca (gf l' t' f' L) j).toNat:Nat):Int)<((blk (Int.toNat (0:Int)):Nat):Int)+((blk (Int.toNat (0:Int)):Nat):Int))=false:=decide_eq_false (by rw[c0];omega)
     have c2:(((blk (ca (gf l t f L) i).toNat:Nat):Int)+((blk (ca (gf l' t' f' L) j).toNat:Nat):Int)==((blk (Int.toNat (0:Int)):Nat):Int)+((blk (Int.toNat (0:Int)):Nat):Int))=false:=beq_eq_false_iff_ne.2 (by rw[c0];omega)
     repeat'((conv=>whnf);first|apply And.intro|exact bA (by subst_vars;assumption)|intro h9)
     all_goals(try(conv=>whnf))<;>(subst_vars;try first|(apply Tk.mk;kernel_rfl)|exact⟨ah rfl⟩|exact⟨rfl⟩|exact⟨trivial⟩|rfl|contradiction|(apply Ob.mk;(try simp only[ag,ak,aa.ae])<;>(try dsimp only)<;>omega))
     all_goals try first|exact⟨r1⟩|exact⟨r2⟩|exact⟨p3⟩|exact⟨⟨x3,x4⟩⟩|exact⟨⟨y3,y4⟩⟩|exact⟨show 0+Int.toNat (i:Int)<(gf l t f L).length by omega⟩|exact⟨show 0+Int.toNat (j:Int)<(gf l' t' f' L).length by omega⟩
     all_goals
      refine⟨j+1,[0,1,2,3,4,5,6],Ho,?_,by show(gf l' t' f' L).length-(j+1)<(gf l' t' f' L).length-j;omega⟩
      dsimp only;rw[hst];repeat'((conv=>whnf)<;>first|apply And.intro|intro _|rfl|trivial|exact ah rfl|exact aS ‹_› rfl|exact aT ‹_› rfl|((repeat' first|rfl|constructor);done)|exact xe|exact ye)
    |some pq=>
     obtain⟨p,q⟩:=pq;obtain⟨p1,q1⟩:=hok p q rfl;dsimp only at hst;rw[afp hn x1 y1 p1 q1]at hst;have p2:Int.toNat (p:Int)<2^L.length:=by rw[Int.toNat_natCast];exact p1
     have q2:Int.toNat (q:Int)<2^L.length:=by rw[Int.toNat_natCast];exact q1
     have aH5:blk (Int.toNat (p:Int))<=20:=by rw[Int.toNat_natCast,alN (by omega) p1];exact Nat.le_trans (ajs _ _) hn
     have aH6:blk (Int.toNat (q:Int))<=20:=by rw[Int.toNat_natCast,alN (by omega) q1];exact Nat.le_trans (ajs _ _) hn
     have p3:0<=(p:Int)/\(p:Int)<4611686018427387904:=by omega
     have q3:0<=(q:Int)/\(q:Int)<4611686018427387904:=by omega
     have p4:0<=(p:Int)/\Int.toNat (p:Int)<2^L.length:=⟨by omega,p2⟩
     have q4:0<=(q:Int)/\Int.toNat (q:Int)<2^L.length:=⟨by omega,q2⟩
     have r2:ak .i64 (((blk (Int.toNat (p:Int)):Nat):Int)+((blk (Int.toNat (q:Int)):Nat):Int)):=by simp only[ak];omega
     rw[<-xe,show blk p=blk (Int.toNat (p:Int)) by rw[Int.toNat_natCast],show blk q=blk (Int.toNat (q:Int)) by rw[Int.toNat_natCast],show eA L.length (ca (gf l t f L) i).toNat p=eA L.length (ca (gf l t f L) i).toNat (Int.toNat (p:Int)) by rw[Int.toNat_natCast],show eA L.length (ca (gf l' t' f' L) j).toNat q=eA L.length (ca (gf l' t' f' L) j).toNat (Int.toNat (q:Int)) by rw[Int.toNat_natCast]]at hst
     cases c1:decide (((blk (ca (gf l t f L) i).toNat:Nat):Int)+((blk (ca (gf l' t' f' L) j).toNat:Nat):Int)<((blk (Int.toNat (p:Int)):Nat):Int)+((blk (Int.toNat (q:Int)):Nat):Int))
     ·rw[c1,Bool.false_or]at hst;cases c2:(((blk (ca (gf l t f L) i).toNat:Nat):Int)+((blk (ca (gf l' t' f' L) j).toNat:Nat):Int)==((blk (Int.toNat (p:Int)):Nat):Int)+((blk (Int.toNat (q:Int)):Nat):Int))
      ·rw[c2,Bool.false_and]at hst;replace hst:=hst.trans (if_neg (by decide))
       repeat'((conv=>whnf);first|apply And.intro|exact bA (by subst_vars;assumption)|intro h9)
       all_goals(try(conv=>whnf))<;>(subst_vars;try first|(apply Tk.mk;kernel_rfl)|exact⟨ah rfl⟩|exact⟨rfl⟩|exact⟨trivial⟩|rfl|contradiction|(apply Ob.mk;(try simp only[ag,ak,aa.ae])<;>(try dsimp only)<;>omega))
       all_goals try first|exact⟨r1⟩|exact⟨r2⟩|exact⟨p3⟩|exact⟨q3⟩|exact⟨⟨x3,x4⟩⟩|exact⟨⟨y3,y4⟩⟩|exact⟨show 0+Int.toNat (i:Int)<(gf l t f L).length by omega⟩|exact⟨show 0+Int.toNat (j:Int)<(gf l' t' f' L).length by omega⟩
       all_goals
        refine⟨j+1,[0,1,2,3,4,5,6],Ho,?_,by show(gf l' t' f' L).length-(j+1)<(gf l' t' f' L).length-j;omega⟩
        dsimp only;rw[hst];repeat'((conv=>whnf)<;>first|apply And.intro|intro _|rfl|trivial|exact ah rfl|exact aS ‹_› rfl|exact aT ‹_› rfl|((repeat' first|rfl|constructor);done)|exact xe|exact ye)
      rw[c2,Bool.true_and]at hst;cases c3:eA L.length (ca (gf l t f L) i).toNat (Int.toNat (p:Int))
      ·rw[c3,Bool.false_or]at hst;cases c4:(ca (gf l t f L) i==(p:Int))
       ·rw[c4,Bool.false_and]at hst;replace hst:=hst.trans (if_neg (by decide))
        repeat'((conv=>whnf);first|apply And.intro|exact bA (by subst_vars;assumption)|intro h9)
        all_goals(try(conv=>whnf))<;>(subst_vars;try first|(apply Tk.mk;kernel_rfl)|exact⟨ah rfl⟩|exact⟨rfl⟩|exact⟨trivial⟩|rfl|contradiction|(apply Ob.mk;(try simp only[ag,ak,aa.ae])<;>(try dsimp only)<;>omega))
        all_goals try first|exact⟨r1⟩|exact⟨r2⟩|exact⟨p3⟩|exact⟨q3⟩|exact⟨p4⟩|exact⟨⟨x3,x4⟩⟩|exact⟨⟨y3,y4⟩⟩|exact⟨⟨x0,x1⟩⟩|exact⟨hB⟩|exact⟨show 0+Int.toNat (i:Int)<(gf l t f L).length by omega⟩|exact⟨show 0+Int.toNat (j:Int)<(gf l' t' f' L).length by omega⟩
        all_goals
         refine⟨j+1,[0,1,2,3,4,5,6],Ho,?_,by show(gf l' t' f' L).length-(j+1)<(gf l' t' f' L).length-j;omega⟩
         dsimp only;rw[hst];repeat'((conv=>whnf)<;>first|apply And.intro|intro _|rfl|trivial|exact ah rfl|exact aS ‹_› rfl|exact aT ‹_› rfl|((repeat' first|rfl|constructor);done)|exact xe|exact ye)
       rw[c4,Bool.true_and]at hst;cases c5:eA L.length (ca (gf l' t' f' L) j).toNat (Int.toNat (q:Int))
       ·rw[c5]at hst;replace hst:=hst.trans (if_neg (by decide))
        repeat'((conv=>whnf);first|apply And.intro|exact bA (by subst_vars;assumption)|intro h9)
        all_goals(try(conv=>whnf))<;>(subst_vars;try first|(apply Tk.mk;kernel_rfl)|exact⟨ah rfl⟩|exact⟨rfl⟩|exact⟨trivial⟩|rfl|contradiction|(apply Ob.mk;(try simp only[ag,ak,aa.ae])<;>(try dsimp only)<;>omega))
        all_goals try first|exact⟨r1⟩|exact⟨r2⟩|exact⟨p3⟩|exact⟨q3⟩|exact⟨p4⟩|exact⟨q4⟩|exact⟨⟨x3,x4⟩⟩|exact⟨⟨y3,y4⟩⟩|exact⟨⟨x0,x1⟩⟩|exact⟨⟨y0,y1⟩⟩|exact⟨hB⟩|exact⟨show 0+Int.toNat (i:Int)<(gf l t f L).length by omega⟩|exact⟨show 0+Int.toNat (j:Int)<(gf l' t' f' L).length by omega⟩
        all_goals
         refine⟨j+1,[0,1,2,3,4,5,6],Ho,?_,by show(gf l' t' f' L).length-(j+1)<(gf l' t' f' L).length-j;omega⟩
         dsimp only;rw[hst];repeat'((conv=>whnf)<;>first|apply And.intro|intro _|rfl|trivial|exact ah rfl|exact aS ‹_› rfl|exact aT ‹_› rfl|((repeat' first|rfl|constructor);done)|exact xe|exact ye)
       rw[c5]at hst;replace hst:=hst.trans (if_pos rfl);repeat'((conv=>whnf);first|apply And.intro|exact bA (by subst_vars;assumption)|intro h9)
       all_goals(try(conv=>whnf))<;>(subst_vars;try first|(apply Tk.mk;kernel_rfl)|exact⟨ah rfl⟩|exact⟨rfl⟩|exact⟨trivial⟩|rfl|contradiction|(apply Ob.mk;(try simp only[ag,ak,aa.ae])<;>(try dsimp only)<;>omega))
       all_goals try first|exact⟨r1⟩|exact⟨r2⟩|exact⟨p3⟩|exact⟨q3⟩|exact⟨p4⟩|exact⟨q4⟩|exact⟨⟨x3,x4⟩⟩|exact⟨⟨y3,y4⟩⟩|exact⟨⟨x0,x1⟩⟩|exact⟨⟨y0,y1⟩⟩|exact⟨hB⟩|exact⟨show 0+Int.toNat (i:Int)<(gf l t f L).length by omega⟩|exact⟨show 0+Int.toNat (j:Int)<(gf l' t' f' L).length by omega⟩
       all_goals
        refine⟨j+1,[0,1,2,3,4,5,6],Ho,?_,by show(gf l' t' f' L).length-(j+1)<(gf l' t' f' L).length-j;omega⟩
        dsimp only;rw[hst];repeat'((conv=>whnf)<;>first|apply And.intro|intro _|rfl|trivial|exact ah rfl|exact aS ‹_› rfl|exact aT ‹_› rfl|((repeat' first|rfl|constructor);done)|exact xe|exact ye)
      rw[c3,Bool.true_or]at hst;replace hst:=hst.trans (if_pos rfl);repeat'((conv=>whnf);first|apply And.intro|exact bA (by subst_vars;assumption)|intro h9)
      all_goals(try(conv=>whnf))<;>(subst_vars;try first|(apply Tk.mk;kernel_rfl)|exact⟨ah rfl⟩|exact⟨rfl⟩|exact⟨trivial⟩|rfl|contradiction|(apply Ob.mk;(try simp only[ag,ak,aa.ae])<;>(try dsimp only)<;>omega))
      all_goals try first|exact⟨r1⟩|exact⟨r2⟩|exact⟨p3⟩|exact⟨q3⟩|exact⟨p4⟩|exact⟨⟨x3,x4⟩⟩|exact⟨⟨y3,y4⟩⟩|exact⟨⟨x0,x1⟩⟩|exact⟨hB⟩|exact⟨show 0+Int.toNat (i:Int)<(gf l t f L).length by omega⟩|exact⟨show 0+Int.toNat (j:Int)<(gf l' t' f' L).length by omega⟩
      all_goals
       refine⟨j+1,[0,1,2,3,4,5,6],Ho,?_,by show(gf l' t' f' L).length-(j+1)<(gf l' t' f' L).length-j;omega⟩
       dsimp only;rw[hst];repeat'((conv=>whnf)<;>first|apply And.intro|intro _|rfl|trivial|exact ah rfl|exact aS ‹_› rfl|exact aT ‹_› rfl|((repeat' first|rfl|constructor);done)|exact xe|exact ye)
     rw[c1,Bool.true_or]at hst;replace hst:=hst.trans (if_pos rfl);repeat'((conv=>whnf);first|apply And.intro|exact bA (by subst_vars;assumption)|intro h9)
     all_goals(try(conv=>whnf))<;>(subst_vars;try first|(apply Tk.mk;kernel_rfl)|exact⟨ah rfl⟩|exact⟨rfl⟩|exact⟨trivial⟩|rfl|contradiction|(apply Ob.mk;(try simp only[ag,ak,aa.ae])<;>(try dsimp only)<;>omega))
     all_goals try first|exact⟨r1⟩|exact⟨r2⟩|exact⟨p3⟩|exact⟨q3⟩|exact⟨⟨x3,x4⟩⟩|exact⟨⟨y3,y4⟩⟩|exact⟨show 0+Int.toNat (i:Int)<(gf l t f L).length by omega⟩|exact⟨show 0+Int.toNat (j:Int)<(gf l' t' f' L).length by omega⟩
     all_goals
      refine⟨j+1,[0,1,2,3,4,5,6],Ho,?_,by show(gf l' t' f' L).length-(j+1)<(gf l' t' f' L).length-j;omega⟩
      dsimp only;rw[hst];repeat'((conv=>whnf)<;>first|apply And.intro|intro _|rfl|trivial|exact ah rfl|exact aS ‹_› rfl|exact aT ‹_› rfl|((repeat' first|rfl|constructor);done)|exact xe|exact ye)
   ·have d0:((((ca (gf l t f L) i).toNat &&& (ca (gf l' t' f' L) j).toNat:Nat):Int)!=0)=true:=by rw[bne_iff_ne];omega
    have pT:tI L l t f l' t' f' i (j+1)=tI L l t f l' t' f' i j:=by rw[hst];unfold asn;rw[if_neg hd]
    repeat'((conv=>whnf);first|apply And.intro|exact bA (by subst_vars;assumption)|intro h9)
    all_goals(try(conv=>whnf))<;>(subst_vars;try first|(apply Tk.mk;kernel_rfl)|exact⟨ah rfl⟩|exact⟨rfl⟩|exact⟨trivial⟩|rfl|contradiction|(apply Ob.mk;(try simp only[ag,ak,aa.ae])<;>(try dsimp only)<;>omega))
    all_goals try first|exact⟨⟨x3,x4⟩⟩|exact⟨⟨y3,y4⟩⟩|exact⟨show 0+Int.toNat (i:Int)<(gf l t f L).length by omega⟩|exact⟨show 0+Int.toNat (j:Int)<(gf l' t' f' L).length by omega⟩
    all_goals
     refine⟨j+1,[0,1,2,3,4,5,6],Ho,?_,by show(gf l' t' f' L).length-(j+1)<(gf l' t' f' L).length-j;omega⟩
     dsimp only;rw[pT];repeat'((conv=>whnf)<;>first|apply And.intro|intro _|rfl|trivial|exact ah rfl|exact aS ‹_› rfl|exact aT ‹_› rfl|((repeat' first|rfl|constructor);done)|exact aFG _ _ _ _)
  have q0:decide ((j:Int)<((gf l' t' f' L).length:Int))=false:=decide_eq_false (by omega)
  have eE:=aGD (l:=l) (t:=t) (f:=f) hi1 (show(gf l' t' f' L).length<=j by omega)
  repeat'((conv=>whnf);first|apply And.intro|exact bA (by subst_vars;assumption)|intro h9)
  all_goals(try(conv=>whnf))<;>(subst_vars;try first|(apply Tk.mk;kernel_rfl)|exact⟨ah rfl⟩|exact⟨rfl⟩|exact⟨trivial⟩|rfl|contradiction|(apply Ob.mk;(try simp only[ag,ak,aa.ae])<;>(try dsimp only)<;>omega))
  all_goals
   refine⟨i+1,[0,1,2,3,4,5,6],hi1,?_,by show(gf l t f L).length-(i+1)<(gf l t f L).length-i;omega⟩
   dsimp only;rw[<-eE];repeat'((conv=>whnf)<;>first|apply And.intro|intro _|rfl|trivial|exact ah rfl|exact aS ‹_› rfl|exact aT ‹_› rfl|((repeat' first|rfl|constructor);done)|exact aFG _ _ _ _)
 have p0:decide ((i:Int)<((gf l t f L).length:Int))=false:=decide_eq_false (by omega)
 rw[<-aG5 (l:=l) (t:=t) (f:=f) (l':=l') (t':=t') (f':=f') (show(gf l t f L).length<=i by omega)]
 dsimp only;generalize tO L l t f l' t' f' i=b at*;cases b
 ·repeat'((conv=>whnf);first|apply And.intro|exact bA (by subst_vars;assumption)|intro h9)
  all_goals(try(conv=>whnf))<;>(subst_vars;try first|(apply Tk.mk;kernel_rfl)|exact⟨ah rfl⟩|exact⟨rfl⟩|exact⟨trivial⟩|rfl|contradiction|(apply Ob.mk;(try simp only[ag,ak,aa.ae])<;>(try dsimp only)<;>omega))
  all_goals first|trivial
 ·repeat'((conv=>whnf);first|apply And.intro|exact bA (by subst_vars;assumption)|intro h9)
  all_goals(try(conv=>whnf))<;>(subst_vars;try first|(apply Tk.mk;kernel_rfl)|exact⟨ah rfl⟩|exact⟨rfl⟩|exact⟨trivial⟩|rfl|contradiction|(apply Ob.mk;(try simp only[ag,ak,aa.ae])<;>(try dsimp only)<;>omega))
  all_goals first|trivial)
end Go.Proofs.Ytccnimhgjjnmoaa
end
section
namespace Go.Proofs.Ytccnimhgjjnmoaa
open Go Go.Sy Go.dg
variable {Γ:bn}
noncomputable def aHK:List (Nat×au):=[(21,aIb),(32,av3),(26,anH),(33,aoN),(34,aE5),(29,avI),(28,uA)]
theorem aGL:aR Try.prog Γ aHK:=(((((((aR.nil.cons (aj Try.func28 rfl rfl).fn yG).cons (aj Try.func29 rfl rfl).fn auA).cons (aj Try.func34 rfl rfl).fn aFk).cons (aj Try.func33 rfl rfl).fn apG).cons (aj Try.func26 rfl rfl).fn ao7).cons (aj Try.func32 rfl rfl).fn ave).cons (aj Try.func21 rfl rfl).fn sW)
theorem aEZ {L:List Bk} {l t f l' t' f':Int} (h:¬bf L l t f=0):akW L l t f l' t' f'=bf L l t f:=by
 have h1:=akP L l t f;unfold akW lu;rw[<-h1]at h ⊢;unfold lu at h ⊢;by_cases hc:(ck L).1=0
 ·rw[if_pos hc,if_pos hc];rw[if_pos hc]at h;cases hw:ald (l,t,f)
  ·rw[if_neg (by simp[hw]),if_neg (by simp[hw])]
  ·exact absurd (if_pos (by simp[hw])) h
 ·rw[if_neg hc,if_neg hc]
theorem aEg {L:List Bk} {l t f l' t' f':Int} (h:bf L l t f=0):akW L l t f l' t' f'=if pe l' t' f'=true then 0 else 1:=by
 obtain⟨hB,hw⟩:=gg h;unfold akW lu;rw[atO hB,if_pos rfl];have mL:ald (l,t,f)=true:=hw;cases h2:pe l' t' f'
 ·have lS:ald (l',t',f')=false:=h2;rw[if_neg (by simp[lS])];rfl
 ·have lS:ald (l',t',f')=true:=h2;rw[if_pos (by simp[mL,lS])];rfl
theorem aG9 {L:List Bk} {l t f l' t' f':Int} (hn:L.length<=20):(0<=tA (rT L l t f l' t' f')/\tA (rT L l t f l' t' f')<4611686018427387904)/\(0<=tB (rT L l t f l' t' f')/\tB (rT L l t f l' t' f')<4611686018427387904):=by
 have h:aES L.length (rT L l t f l' t' f'):=aFg aEo _ (fun p q e=>by cases e) fun x hx=>aEo x hx
 have hp:=akO hn;cases hr:rT L l t f l' t' f' with
 |none=>exact⟨⟨Int.le_refl 0,by show(0:Int)<_;omega⟩,⟨Int.le_refl 0,by show(0:Int)<_;omega⟩⟩
 |some pq=>
  obtain⟨p,q⟩:=pq;obtain⟨h1,h2⟩:=h p q hr;show(0<=(p:Int)/\(p:Int)<4611686018427387904)/\(0<=(q:Int)/\(q:Int)<4611686018427387904);omega
attribute [local irreducible] ck bf akW pe rT ars eg pw
def aE2:au:=aF3 (fun _ _ _ _ _ _ _=>[]) (fun _ _ _ _ _ _ _=>bl true)
theorem aEC:au.Ok Try.prog Γ 4 aE2:=aFq (d:=0) (aP aGL bq.nil false 0) (aj Try.func4 rfl rfl) (fun _ _ _ _ _ _ _=>rfl) (by
 intro L l t f l' t' f' _;have z0:((0:Int)==0)=true:=rfl;have z1:((0:Int)+0==0)=true:=rfl;have z2:((0:Int)!=0)=false:=rfl;have z3:((1:Int)!=0)=true:=rfl;have z4:((1:Int)==0)=false:=rfl;have z5:((2:Int)==0)=false:=rfl;have z6:((2:Int)!=0)=true:=rfl;have z7:((5:Int)!=0)=true:=rfl;have z8:((2:Int)==2)=true:=rfl;have z9:((5:Int)==5)=true:=rfl;by_cases g1:L.length<=7
 ·have d1:decide ((L.length:Int)>7)=false:=decide_eq_false (by omega)
  have d3:decide ((L.length:Int)>30)=false:=decide_eq_false (by omega)
  have d4:decide ((L.length:Int)>10)=false:=decide_eq_false (by omega)
  have hL:L.length<=1000000:=by omega
  cases h0:bf L l t f==0
  ·have hne:¬bf L l t f=0:=fun e=>by rw[e]at h0;cases h0
   have a1:(bf L l t f !=0)=true:=by unfold bne;rw[h0];rfl
   have e2:akW L l t f l' t' f'=bf L l t f:=aEZ hne;have a2:(akW L l t f l' t' f'==0)=false:=by rw[e2];exact h0
   have a3:(akW L l t f l' t' f'==bf L l t f)=true:=by rw[e2];exact beq_self_eq_true _
   clear e2;repeat'((conv=>whnf);first|apply And.intro|exact bA (by subst_vars;assumption)|intro h9)
   all_goals(try(conv=>whnf))<;>(subst_vars;try first|(apply Tk.mk;kernel_rfl)|exact⟨ah rfl⟩|exact⟨rfl⟩|exact⟨trivial⟩|rfl|contradiction|(apply Ob.mk;(try simp only[ag,ak,aa.ae])<;>(try dsimp only)<;>omega))
   all_goals try first|exact⟨hL⟩
  have ha:=eq_of_beq h0;obtain⟨hB,hw⟩:=gg ha;obtain⟨hl,ht,hf⟩:=wE hw;have jJ:-1152921504606846976<=l/\l<=1152921504606846976:=by omega
  have UW:-1152921504606846976<=t/\t<=1152921504606846976:=by omega
  have a1:(bf L l t f !=0)=false:=by unfold bne;rw[h0];rfl
  cases fS:pe l' t' f'
  ·have w0:(!pe l' t' f')=true:=by rw[fS];rfl
   have e2:akW L l t f l' t' f'=1:=by rw[aEg ha,if_neg (by rw[fS];simp)]
   have a2:(akW L l t f l' t' f'==0)=false:=by rw[e2];rfl
   have a3:(akW L l t f l' t' f'==1)=true:=by rw[e2];rfl
   clear e2;repeat'((conv=>whnf);first|apply And.intro|exact bA (by subst_vars;assumption)|intro h9)
   all_goals(try(conv=>whnf))<;>(subst_vars;try first|(apply Tk.mk;kernel_rfl)|exact⟨ah rfl⟩|exact⟨rfl⟩|exact⟨trivial⟩|rfl|contradiction|(apply Ob.mk;(try simp only[ag,ak,aa.ae])<;>(try dsimp only)<;>omega))
   all_goals try first|exact⟨hL⟩
  have w0:(!pe l' t' f')=false:=by rw[fS];rfl
  obtain⟨hl',ht',aAH⟩:=wE fS;have oz:-1152921504606846976<=l'/\l'<=1152921504606846976:=by omega
  have aAK:-1152921504606846976<=t'/\t'<=1152921504606846976:=by omega
  have e2:akW L l t f l' t' f'=0:=by rw[aEg ha,if_pos fS]
  have a2:(akW L l t f l' t' f'==0)=true:=beq_iff_eq.2 e2;obtain⟨u1,u2⟩:=aG9 (L:=L) (l:=l) (t:=t) (f:=f) (l':=l') (t':=t') (f':=f') hB.Kg;have tw:=aEO (L:=L) (l:=l) (t:=t) (f:=f) (l':=l') (t':=t') (f':=f');clear ha e2;cases hr:(rT L l t f l' t' f').isSome
  ·have r0:(!(rT L l t f l' t' f').isSome)=true:=by rw[hr];rfl
   have r1:at5 L l t f l' t' f'=false:=tw.trans hr;repeat'((conv=>whnf);first|apply And.intro|exact bA (by subst_vars;assumption)|intro h9)
   all_goals(try(conv=>whnf))<;>(subst_vars;try first|(apply Tk.mk;kernel_rfl)|exact⟨ah rfl⟩|exact⟨rfl⟩|exact⟨trivial⟩|rfl|contradiction|(apply Ob.mk;(try simp only[ag,ak,aa.ae])<;>(try dsimp only)<;>omega))
   all_goals try first|exact⟨hL⟩|exact⟨hB⟩
  ·have r0:(!(rT L l t f l' t' f').isSome)=false:=by rw[hr];rfl
   have r1:at5 L l t f l' t' f'=true:=tw.trans hr;obtain⟨i1,i2⟩:=aFW hr;have k1:decide (pw L (amK L l t f l' t' f').1=eg L (Int.toNat (tA (rT L l t f l' t' f'))))=true:=decide_eq_true i1;have k2:decide (pw L (amK L l t f l' t' f').2=eg L (Int.toNat (tB (rT L l t f l' t' f'))))=true:=decide_eq_true i2;have n1:(eg L (Int.toNat (tA (rT L l t f l' t' f')))).length<=1000000:=by rw[ew];exact Nat.le_trans (ajs _ _) (by omega)
   have n2:(eg L (Int.toNat (tB (rT L l t f l' t' f')))).length<=1000000:=by rw[ew];exact Nat.le_trans (ajs _ _) (by omega)
   have n3:(pw L (amK L l t f l' t' f').1).length<=1000000:=by rw[i1];exact n1
   have n4:(pw L (amK L l t f l' t' f').2).length<=1000000:=by rw[i2];exact n2
   clear i1 i2;repeat'((conv=>whnf);first|apply And.intro|exact bA (by subst_vars;assumption)|intro h9)
   all_goals(try(conv=>whnf))<;>(subst_vars;try first|(apply Tk.mk;kernel_rfl)|exact⟨ah rfl⟩|exact⟨rfl⟩|exact⟨trivial⟩|rfl|contradiction|(apply Ob.mk;(try simp only[ag,ak,aa.ae])<;>(try dsimp only)<;>omega))
   all_goals try first|trivial|exact⟨hL⟩|exact⟨hB⟩|exact⟨u1⟩|exact⟨u2⟩|exact⟨n3⟩|exact⟨n4⟩
 ·have d1:decide ((L.length:Int)>7)=true:=decide_eq_true (by omega)
  by_cases g2:L.length<=10
  ·have d2:decide ((L.length:Int)<=10)=true:=decide_eq_true (by omega)
   repeat'((conv=>whnf);first|apply And.intro|exact bA (by subst_vars;assumption)|intro h9)
   all_goals(try(conv=>whnf))<;>(subst_vars;try first|(apply Tk.mk;kernel_rfl)|exact⟨ah rfl⟩|exact⟨rfl⟩|exact⟨trivial⟩|rfl|contradiction|(apply Ob.mk;(try simp only[ag,ak,aa.ae])<;>(try dsimp only)<;>omega))
  have d2:decide ((L.length:Int)<=10)=false:=decide_eq_false (by omega)
  by_cases g3:L.length>30
  ·have d3:decide ((L.length:Int)>30)=true:=decide_eq_true (by omega)
   repeat'((conv=>whnf);first|apply And.intro|exact bA (by subst_vars;assumption)|intro h9)
   all_goals(try(conv=>whnf))<;>(subst_vars;try first|(apply Tk.mk;kernel_rfl)|exact⟨ah rfl⟩|exact⟨rfl⟩|exact⟨trivial⟩|rfl|contradiction|(apply Ob.mk;(try simp only[ag,ak,aa.ae])<;>(try dsimp only)<;>omega))
  have d3:decide ((L.length:Int)>30)=false:=decide_eq_false (by omega)
  have d4:decide ((L.length:Int)>10)=true:=decide_eq_true (by omega)
  have hL:L.length<=1000000:=by omega
  cases h0:bf L l t f==0
  ·have hne:¬bf L l t f=0:=fun e=>by rw[e]at h0;cases h0
   have a1:(bf L l t f !=0)=true:=by unfold bne;rw[h0];rfl
   have e2:akW L l t f l' t' f'=bf L l t f:=aEZ hne;have a2:(akW L l t f l' t' f'==0)=false:=by rw[e2];exact h0
   have a3:(akW L l t f l' t' f'==bf L l t f)=true:=by rw[e2];exact beq_self_eq_true _
   clear e2;repeat'((conv=>whnf);first|apply And.intro|exact bA (by subst_vars;assumption)|intro h9)
   all_goals(try(conv=>whnf))<;>(subst_vars;try first|(apply Tk.mk;kernel_rfl)|exact⟨ah rfl⟩|exact⟨rfl⟩|exact⟨trivial⟩|rfl|contradiction|(apply Ob.mk;(try simp only[ag,ak,aa.ae])<;>(try dsimp only)<;>omega))
   all_goals try first|exact⟨hL⟩
  have ha:=eq_of_beq h0;have a1:(bf L l t f !=0)=false:=by unfold bne;rw[h0];rfl
  cases fS:pe l' t' f'
  ·have w0:(!pe l' t' f')=true:=by rw[fS];rfl
   have e2:akW L l t f l' t' f'=1:=by rw[aEg ha,if_neg (by rw[fS];simp)]
   have a2:(akW L l t f l' t' f'==0)=false:=by rw[e2];rfl
   have a3:(akW L l t f l' t' f'==1)=true:=by rw[e2];rfl
   clear e2;repeat'((conv=>whnf);first|apply And.intro|exact bA (by subst_vars;assumption)|intro h9)
   all_goals(try(conv=>whnf))<;>(subst_vars;try first|(apply Tk.mk;kernel_rfl)|exact⟨ah rfl⟩|exact⟨rfl⟩|exact⟨trivial⟩|rfl|contradiction|(apply Ob.mk;(try simp only[ag,ak,aa.ae])<;>(try dsimp only)<;>omega))
   all_goals try first|exact⟨hL⟩
  have w0:(!pe l' t' f')=false:=by rw[fS];rfl
  have e2:akW L l t f l' t' f'=0:=by rw[aEg ha,if_pos fS]
  have a2:(akW L l t f l' t' f'==0)=true:=beq_iff_eq.2 e2;clear ha e2;repeat'((conv=>whnf);first|apply And.intro|exact bA (by subst_vars;assumption)|intro h9)
  all_goals(try(conv=>whnf))<;>(subst_vars;try first|(apply Tk.mk;kernel_rfl)|exact⟨ah rfl⟩|exact⟨rfl⟩|exact⟨trivial⟩|rfl|contradiction|(apply Ob.mk;(try simp only[ag,ak,aa.ae])<;>(try dsimp only)<;>omega))
  all_goals try first|exact⟨hL⟩)
end Go.Proofs.Ytccnimhgjjnmoaa
end
